/- Own layer: the walks through the laws of squashing: agree, nothing back, never seen, major unseen. Of the program; no condition. -/
import Derived.Test.YtijhkfhflpmajaaKG
import Derived.Test.YtijhkfhflpmajaaKC
set_option linter.unusedSimpArgs false
set_option linter.unusedVariables false
namespace Go.Proofs.Ytijhkfhflpmajaa
open Go Go.Sx Go.Rt Go.Proofs

theorem squashE_fits (s : List Fml) (clock low : Int) (major : Bool) (l : List Ent) : ∀ e ∈ (squashE s clock major low l).1, e.fits := by
  by_cases h : (prepE s clock [low] 1 l).2 = 0
  · rw [squash_ok h]
    intro e he
    obtain ⟨y, hy, _, rfl⟩ := mem_T.1 he
    exact fits_of (checkedE_zero (checked_form ((prep_ok h).2.1 y hy))).1
  · unfold squashE; rw [if_pos h]; intro e he; cases he

def agreeB (s : List Fml) (clock t n : Int) (a b : List Ent) : Bool :=
  bif (bif (bif (bif (bif (readE s clock t n a).2 != (readE s clock t n b).2 then true else (visE s clock a).2 != 0) then true else (visE s clock b).2 != 0) then true else (topE s clock a).2 != 0) then true else (topE s clock b).2 != 0) then false
  else bif (bif decide ((readE s clock t n a).1 = (readE s clock t n b).1) then decide ((visE s clock a).1 = (visE s clock b).1) else false) then (topE s clock a).1 == (topE s clock b).1 else false

set_option maxHeartbeats 1600000 in
theorem c_law_agree (s : List Fml) (clock t vn : Int) (a b : List Ent) (ha : a.length ≤ 100000000) (hb9 : b.length ≤ 100000000) (hr : (readE s clock t vn a).1.length < 4611686018427387904) (hv : (visE s clock a).1.length < 4611686018427387904) (H : Heap) (n : Nat) :
    Ret Try.prog 17 [schAV s, .int .i64 clock, .int .i64 t, .int .i64 vn, entsAV a, entsAV b] H n (.bool (agreeB s clock t vn a b)) H n := by
  refine Ret.fin ?_
  refine acalls_of_awp Try.func17 rfl Try.ntmps17 (congrArg Array.toList Try.results17) (by simp) ?_
  simp only [go_sem]
  refine awp_reg zs [1, 2, 3, 4, 5, 6] fun K hK => ?_  -- region 0
  try simp only [go_sem, List.map_cons, List.map_nil, ↓reduceIte, Nat.reduceEqDiff, Nat.reduceLT, Nat.reduceSub, Nat.reduceAdd, Nat.reduceMul, implies_true, true_and, and_true, cond_true, cond_false]
  iterate 14 (first | (refine And.intro ?_ ?_; · first | omega | assumption | (simp; done) | (intros; simp_all; done) | decide) | skip)
  refine hK _ _ _ ?_
  clear hK K
  refine awp_reg zs [1, 2, 3, 4, 5, 6, 13, 14] fun K hK => ?_  -- region 1
  try simp only [go_sem, List.map_cons, List.map_nil, ↓reduceIte, Nat.reduceEqDiff, Nat.reduceLT, Nat.reduceSub, Nat.reduceAdd, Nat.reduceMul, implies_true, true_and, and_true, cond_true, cond_false]
  iterate 14 (first | (refine And.intro ?_ ?_; · first | omega | assumption | (simp; done) | (intros; simp_all; done) | decide) | skip)
  refine callK_use Try.func24 rfl rfl rfl ((c_retain_Read s clock t vn a ha _ _)) ?_
  try simp only [go_sem, List.map_cons, List.map_nil, ↓reduceIte, Nat.reduceEqDiff, Nat.reduceLT, Nat.reduceSub, Nat.reduceAdd, Nat.reduceMul, implies_true, true_and, and_true, cond_true, cond_false]
  iterate 14 (first | (refine And.intro ?_ ?_; · first | omega | assumption | (simp; done) | (intros; simp_all; done) | decide) | skip)
  refine hK _ _ _ ?_
  clear hK K
  refine awp_reg zs [1, 4, 5, 6, 13, 14, 15, 16] fun K hK => ?_  -- region 2
  try simp only [go_sem, List.map_cons, List.map_nil, ↓reduceIte, Nat.reduceEqDiff, Nat.reduceLT, Nat.reduceSub, Nat.reduceAdd, Nat.reduceMul, implies_true, true_and, and_true, cond_true, cond_false]
  iterate 14 (first | (refine And.intro ?_ ?_; · first | omega | assumption | (simp; done) | (intros; simp_all; done) | decide) | skip)
  refine callK_use Try.func24 rfl rfl rfl ((c_retain_Read s clock t vn b hb9 _ _)) ?_
  try simp only [go_sem, List.map_cons, List.map_nil, ↓reduceIte, Nat.reduceEqDiff, Nat.reduceLT, Nat.reduceSub, Nat.reduceAdd, Nat.reduceMul, implies_true, true_and, and_true, cond_true, cond_false]
  iterate 14 (first | (refine And.intro ?_ ?_; · first | omega | assumption | (simp; done) | (intros; simp_all; done) | decide) | skip)
  refine hK _ _ _ ?_
  clear hK K
  refine awp_reg zs [1, 4, 5, 6, 13, 14, 15, 16, 17, 18] fun K hK => ?_  -- region 3
  try simp only [go_sem, List.map_cons, List.map_nil, ↓reduceIte, Nat.reduceEqDiff, Nat.reduceLT, Nat.reduceSub, Nat.reduceAdd, Nat.reduceMul, implies_true, true_and, and_true, cond_true, cond_false]
  iterate 14 (first | (refine And.intro ?_ ?_; · first | omega | assumption | (simp; done) | (intros; simp_all; done) | decide) | skip)
  refine callK_use Try.func19 rfl rfl rfl ((c_retain_Vis s clock a ha _ _)) ?_
  try simp only [go_sem, List.map_cons, List.map_nil, ↓reduceIte, Nat.reduceEqDiff, Nat.reduceLT, Nat.reduceSub, Nat.reduceAdd, Nat.reduceMul, implies_true, true_and, and_true, cond_true, cond_false]
  iterate 14 (first | (refine And.intro ?_ ?_; · first | omega | assumption | (simp; done) | (intros; simp_all; done) | decide) | skip)
  refine hK _ _ _ ?_
  clear hK K
  refine awp_reg zs [1, 4, 5, 6, 13, 14, 15, 16, 17, 18, 19, 20] fun K hK => ?_  -- region 4
  try simp only [go_sem, List.map_cons, List.map_nil, ↓reduceIte, Nat.reduceEqDiff, Nat.reduceLT, Nat.reduceSub, Nat.reduceAdd, Nat.reduceMul, implies_true, true_and, and_true, cond_true, cond_false]
  iterate 14 (first | (refine And.intro ?_ ?_; · first | omega | assumption | (simp; done) | (intros; simp_all; done) | decide) | skip)
  refine callK_use Try.func19 rfl rfl rfl ((c_retain_Vis s clock b hb9 _ _)) ?_
  try simp only [go_sem, List.map_cons, List.map_nil, ↓reduceIte, Nat.reduceEqDiff, Nat.reduceLT, Nat.reduceSub, Nat.reduceAdd, Nat.reduceMul, implies_true, true_and, and_true, cond_true, cond_false]
  iterate 14 (first | (refine And.intro ?_ ?_; · first | omega | assumption | (simp; done) | (intros; simp_all; done) | decide) | skip)
  refine hK _ _ _ ?_
  clear hK K
  refine awp_reg zs [1, 5, 6, 13, 14, 15, 16, 17, 18, 19, 20, 21, 22] fun K hK => ?_  -- region 5
  try simp only [go_sem, List.map_cons, List.map_nil, ↓reduceIte, Nat.reduceEqDiff, Nat.reduceLT, Nat.reduceSub, Nat.reduceAdd, Nat.reduceMul, implies_true, true_and, and_true, cond_true, cond_false]
  iterate 14 (first | (refine And.intro ?_ ?_; · first | omega | assumption | (simp; done) | (intros; simp_all; done) | decide) | skip)
  refine callK_use Try.func40 rfl rfl rfl ((c_retain_Top s clock a ha _ _)) ?_
  try simp only [go_sem, List.map_cons, List.map_nil, ↓reduceIte, Nat.reduceEqDiff, Nat.reduceLT, Nat.reduceSub, Nat.reduceAdd, Nat.reduceMul, implies_true, true_and, and_true, cond_true, cond_false]
  iterate 14 (first | (refine And.intro ?_ ?_; · first | omega | assumption | (simp; done) | (intros; simp_all; done) | decide) | skip)
  refine hK _ _ _ ?_
  clear hK K
  refine awp_reg zs [13, 14, 15, 16, 17, 18, 19, 20, 21, 22, 23, 24] fun K hK => ?_  -- region 6
  try simp only [go_sem, List.map_cons, List.map_nil, ↓reduceIte, Nat.reduceEqDiff, Nat.reduceLT, Nat.reduceSub, Nat.reduceAdd, Nat.reduceMul, implies_true, true_and, and_true, cond_true, cond_false]
  iterate 14 (first | (refine And.intro ?_ ?_; · first | omega | assumption | (simp; done) | (intros; simp_all; done) | decide) | skip)
  refine callK_use Try.func40 rfl rfl rfl ((c_retain_Top s clock b hb9 _ _)) ?_
  try simp only [go_sem, List.map_cons, List.map_nil, ↓reduceIte, Nat.reduceEqDiff, Nat.reduceLT, Nat.reduceSub, Nat.reduceAdd, Nat.reduceMul, implies_true, true_and, and_true, cond_true, cond_false]
  iterate 14 (first | (refine And.intro ?_ ?_; · first | omega | assumption | (simp; done) | (intros; simp_all; done) | decide) | skip)
  refine hK _ _ _ ?_
  clear hK K
  refine awp_seq_k fun K1 hK1 => ?_
  refine awp_reg zs [13, 15, 17, 19, 21, 23, 95] fun K hK => ?_  -- region 7
  try simp only [go_sem, List.map_cons, List.map_nil, ↓reduceIte, Nat.reduceEqDiff, Nat.reduceLT, Nat.reduceSub, Nat.reduceAdd, Nat.reduceMul, implies_true, true_and, and_true, cond_true, cond_false]
  iterate 14 (first | (refine And.intro ?_ ?_; · first | omega | assumption | (simp; done) | (intros; simp_all; done) | decide) | skip)
  refine callK_use Try.func16 rfl rfl rfl ((by apply c_law_num <;> first | assumption | omega)) ?_
  try simp only [go_sem, List.map_cons, List.map_nil, ↓reduceIte, Nat.reduceEqDiff, Nat.reduceLT, Nat.reduceSub, Nat.reduceAdd, Nat.reduceMul, implies_true, true_and, and_true, cond_true, cond_false]
  iterate 14 (first | (refine And.intro ?_ ?_; · first | omega | assumption | (simp; done) | (intros; simp_all; done) | decide) | skip)
  refine callK_use Try.func16 rfl rfl rfl ((by apply c_law_num <;> first | assumption | omega)) ?_
  try simp only [go_sem, List.map_cons, List.map_nil, ↓reduceIte, Nat.reduceEqDiff, Nat.reduceLT, Nat.reduceSub, Nat.reduceAdd, Nat.reduceMul, implies_true, true_and, and_true, cond_true, cond_false]
  iterate 14 (first | (refine And.intro ?_ ?_; · first | omega | assumption | (simp; done) | (intros; simp_all; done) | decide) | skip)
  refine callG_use Try.func16 rfl rfl rfl (fun _ => (by apply c_law_num <;> first | assumption | omega)) ?_
  try simp only [go_sem, List.map_cons, List.map_nil, ↓reduceIte, Nat.reduceEqDiff, Nat.reduceLT, Nat.reduceSub, Nat.reduceAdd, Nat.reduceMul, implies_true, true_and, and_true, cond_true, cond_false]
  iterate 14 (first | (refine And.intro ?_ ?_; · first | omega | assumption | (simp; done) | (intros; simp_all; done) | decide) | skip)
  refine callG_use Try.func16 rfl rfl rfl (fun _ => (by apply c_law_num <;> first | assumption | omega)) ?_
  try simp only [go_sem, List.map_cons, List.map_nil, ↓reduceIte, Nat.reduceEqDiff, Nat.reduceLT, Nat.reduceSub, Nat.reduceAdd, Nat.reduceMul, implies_true, true_and, and_true, cond_true, cond_false]
  iterate 14 (first | (refine And.intro ?_ ?_; · first | omega | assumption | (simp; done) | (intros; simp_all; done) | decide) | skip)
  refine callG_use Try.func16 rfl rfl rfl (fun _ => (by apply c_law_num <;> first | assumption | omega)) ?_
  try simp only [go_sem, List.map_cons, List.map_nil, ↓reduceIte, Nat.reduceEqDiff, Nat.reduceLT, Nat.reduceSub, Nat.reduceAdd, Nat.reduceMul, implies_true, true_and, and_true, cond_true, cond_false]
  iterate 14 (first | (refine And.intro ?_ ?_; · first | omega | assumption | (simp; done) | (intros; simp_all; done) | decide) | skip)
  refine callG_use Try.func16 rfl rfl rfl (fun _ => (by apply c_law_num <;> first | assumption | omega)) ?_
  try simp only [go_sem, List.map_cons, List.map_nil, ↓reduceIte, Nat.reduceEqDiff, Nat.reduceLT, Nat.reduceSub, Nat.reduceAdd, Nat.reduceMul, implies_true, true_and, and_true, cond_true, cond_false]
  iterate 14 (first | (refine And.intro ?_ ?_; · first | omega | assumption | (simp; done) | (intros; simp_all; done) | decide) | skip)
  refine hK _ _ _ ?_
  clear hK K
  refine awp_cond (b := _) (by simp only [go_sem, List.map_cons, List.map_nil, ↓reduceIte, Nat.reduceEqDiff, Nat.reduceLT, Nat.reduceSub, Nat.reduceAdd, Nat.reduceMul, implies_true, true_and, and_true, cond_true, cond_false]; rfl) (fun hb => ?_) (fun hb => ?_)  -- t95
  · skip
    refine awp_reg zs [12] fun K hK => ?_  -- region 8
    try simp only [go_sem, List.map_cons, List.map_nil, ↓reduceIte, Nat.reduceEqDiff, Nat.reduceLT, Nat.reduceSub, Nat.reduceAdd, Nat.reduceMul, implies_true, true_and, and_true, cond_true, cond_false]
    iterate 14 (first | (refine And.intro ?_ ?_; · first | omega | assumption | (simp; done) | (intros; simp_all; done) | decide) | skip)
    refine hK _ _ _ ?_
    clear hK K
    refine awp_ret ?_
    try simp only [go_sem, List.map_cons, List.map_nil, ↓reduceIte, Nat.reduceEqDiff, Nat.reduceLT, Nat.reduceSub, Nat.reduceAdd, Nat.reduceMul, implies_true, true_and, and_true, cond_true, cond_false]
    refine ⟨_, rfl, ?_, Frz.eq ?_ trivial⟩
    · intro k hk; have h0 : k ≠ n := by omega
      simp [Heap.put, h0]
    · unfold agreeB; rw [hb]; rfl
  · skip
    refine awp_skip ?_
    try simp only [go_sem, List.map_cons, List.map_nil, ↓reduceIte, Nat.reduceEqDiff, Nat.reduceLT, Nat.reduceSub, Nat.reduceAdd, Nat.reduceMul, implies_true, true_and, and_true, cond_true, cond_false]
    refine hK1 _ _ _ ?_
    first | clear hK1 K1 | skip
    refine awp_reg zs [12] fun K hK => ?_  -- region 9
    try simp only [go_sem, List.map_cons, List.map_nil, ↓reduceIte, Nat.reduceEqDiff, Nat.reduceLT, Nat.reduceSub, Nat.reduceAdd, Nat.reduceMul, implies_true, true_and, and_true, cond_true, cond_false]
    iterate 14 (first | (refine And.intro ?_ ?_; · first | omega | assumption | (simp; done) | (intros; simp_all; done) | decide) | skip)
    refine callK_use Try.func18 rfl rfl rfl ((c_ref3_SameAll (readE s clock t vn a).1 (readE s clock t vn b).1 hr _ _)) ?_
    try simp only [go_sem, List.map_cons, List.map_nil, ↓reduceIte, Nat.reduceEqDiff, Nat.reduceLT, Nat.reduceSub, Nat.reduceAdd, Nat.reduceMul, implies_true, true_and, and_true, cond_true, cond_false]
    iterate 14 (first | (refine And.intro ?_ ?_; · first | omega | assumption | (simp; done) | (intros; simp_all; done) | decide) | skip)
    refine callG_use Try.func18 rfl rfl rfl (fun _ => (c_ref3_SameAll (visE s clock a).1 (visE s clock b).1 hv _ _)) ?_
    try simp only [go_sem, List.map_cons, List.map_nil, ↓reduceIte, Nat.reduceEqDiff, Nat.reduceLT, Nat.reduceSub, Nat.reduceAdd, Nat.reduceMul, implies_true, true_and, and_true, cond_true, cond_false]
    iterate 14 (first | (refine And.intro ?_ ?_; · first | omega | assumption | (simp; done) | (intros; simp_all; done) | decide) | skip)
    refine hK _ _ _ ?_
    clear hK K
    refine awp_ret ?_
    try simp only [go_sem, List.map_cons, List.map_nil, ↓reduceIte, Nat.reduceEqDiff, Nat.reduceLT, Nat.reduceSub, Nat.reduceAdd, Nat.reduceMul, implies_true, true_and, and_true, cond_true, cond_false]
    refine ⟨_, rfl, ?_, Frz.eq ?_ trivial⟩
    · intro k hk; have h0 : k ≠ n := by omega
      simp [Heap.put, h0]
    · unfold agreeB; rw [hb]; rfl

def earlyB (s : List Fml) (clock more : Int) (a b : List Ent) : Bool :=
  bif (bif (bif (bif (bif decide (clock < 0) then true else decide (more < 0)) then true else decide (1099511627776 < clock)) then true else decide (IntKind.i64.wrap (1099511627776 - clock) < more)) then true else !apartE a b) then true else !((visE s clock (a ++ b)).2 == 0)
def backX (v w : List Ent) (e : Ent) : Bool := bif (bif e.kind == 1 then !shownB v e else false) then shownB w e else false
def nbackB (s : List Fml) (clock more : Int) (a b : List Ent) : Bool :=
  bif earlyB s clock more a b then true
  else bif (bif (visE s clock a).2 != 0 then true else (visE s (IntKind.i64.wrap (clock + more)) (a ++ b)).2 != 0) then false
  else !(a.any fun e => backX (visE s clock a).1 (visE s (IntKind.i64.wrap (clock + more)) (a ++ b)).1 e)

set_option maxRecDepth 100000 in
set_option maxHeartbeats 1600000 in
theorem c_law_RetainNothingBack (s : List Fml) (clock more : Int) (a b : List Ent) (ha : a.length ≤ 10000000) (hb9 : b.length ≤ 10000000) (hfa : ∀ e ∈ a, e.fits) (hfb : ∀ e ∈ b, e.fits)
    (hv : (visE s clock a).1.length < 4611686018427387904) (hw : (visE s (IntKind.i64.wrap (clock + more)) (a ++ b)).1.length < 4611686018427387904) (H : Heap) (n : Nat) :
    Ret Try.prog 8 [schAV s, .int .i64 clock, .int .i64 more, entsAV a, entsAV b] H n (.bool (nbackB s clock more a b)) H n := by
  have hab : (a ++ b).length ≤ 100000000 := by simp; omega
  refine Ret.fin ?_
  refine acalls_of_awp Try.func8 rfl Try.ntmps8 (congrArg Array.toList Try.results8) (by simp) ?_
  simp only [go_sem]
  refine awp_reg zs [1, 2, 3, 4, 5] fun K hK => ?_  -- region 0
  try simp only [go_sem, List.map_cons, List.map_nil, ↓reduceIte, Nat.reduceEqDiff, Nat.reduceLT, Nat.reduceSub, Nat.reduceAdd, Nat.reduceMul, implies_true, true_and, and_true, cond_true, cond_false]
  iterate 14 (first | (refine And.intro ?_ ?_; · first | omega | assumption | (simp; done) | (intros; simp_all; done) | decide) | skip)
  refine hK _ _ _ ?_
  clear hK K
  refine awp_reg zs [1, 2, 3, 4, 5, 11] fun K hK => ?_  -- region 1
  try simp only [go_sem, List.map_cons, List.map_nil, ↓reduceIte, Nat.reduceEqDiff, Nat.reduceLT, Nat.reduceSub, Nat.reduceAdd, Nat.reduceMul, implies_true, true_and, and_true, cond_true, cond_false]
  iterate 14 (first | (refine And.intro ?_ ?_; · first | omega | assumption | (simp; done) | (intros; simp_all; done) | decide) | skip)
  refine callK_use Try.func11 rfl rfl rfl ((c_law_started _ _)) ?_
  try simp only [go_sem, List.map_cons, List.map_nil, ↓reduceIte, Nat.reduceEqDiff, Nat.reduceLT, Nat.reduceSub, Nat.reduceAdd, Nat.reduceMul, implies_true, true_and, and_true, cond_true, cond_false]
  iterate 14 (first | (refine And.intro ?_ ?_; · first | omega | assumption | (simp; done) | (intros; simp_all; done) | decide) | skip)
  refine hK _ _ _ ?_
  clear hK K
  refine awp_seq_k fun K1 hK1 => ?_
  refine awp_drw rfl zs [1, 2, 3, 4, 5, 11, 52] [.m, .q, .m, .m, .q, .q, .m, .m, .q, .q, .m, .m, .q, .q, .m, .m, .m, .q, .q, .q, .m, .m, .m, .c, .q, .q, .m, .q, .m, .m, .m, .c, .c, .q, .q] (by kernel_rfl) (fun _ _ _ _ _ h => h) fun K hK => ?_  -- region 2
  try simp only [go_sem, List.map_cons, List.map_nil, ↓reduceIte, Nat.reduceEqDiff, Nat.reduceLT, Nat.reduceSub, Nat.reduceAdd, Nat.reduceMul, implies_true, true_and, and_true, cond_true, cond_false]
  iterate 14 (first | (refine And.intro ?_ ?_; · first | omega | assumption | (simp; done) | (intros; simp_all; done) | decide) | skip)
  refine callQG_use Try.func12 rfl rfl rfl (fun _ n => (c_law_apart a b (by omega) (by omega) _ _)) ?_
  try simp only [go_sem, List.map_cons, List.map_nil, ↓reduceIte, Nat.reduceEqDiff, Nat.reduceLT, Nat.reduceSub, Nat.reduceAdd, Nat.reduceMul, implies_true, true_and, and_true, cond_true, cond_false]
  iterate 14 (first | (refine And.intro ?_ ?_; · first | omega | assumption | (simp; done) | (intros; simp_all; done) | decide) | skip)
  refine callQG_use Try.func14 rfl rfl rfl (fun _ n => (c_law_join a b (by omega) (by omega) hfa hfb _ _)) ?_
  try simp only [go_sem, List.map_cons, List.map_nil, ↓reduceIte, Nat.reduceEqDiff, Nat.reduceLT, Nat.reduceSub, Nat.reduceAdd, Nat.reduceMul, implies_true, true_and, and_true, cond_true, cond_false]
  iterate 14 (first | (refine And.intro ?_ ?_; · first | omega | assumption | (simp; done) | (intros; simp_all; done) | decide) | skip)
  refine callQG_use Try.func13 rfl rfl rfl (fun _ n => (c_law_sound s clock (a ++ b) hab _ _)) ?_
  try simp only [go_sem, List.map_cons, List.map_nil, ↓reduceIte, Nat.reduceEqDiff, Nat.reduceLT, Nat.reduceSub, Nat.reduceAdd, Nat.reduceMul, implies_true, true_and, and_true, cond_true, cond_false]
  iterate 14 (first | (refine And.intro ?_ ?_; · first | omega | assumption | (simp; done) | (intros; simp_all; done) | decide) | skip)
  refine hK _ _ _ ?_
  clear hK K
  refine awp_cond (b := _) (by simp only [go_sem, List.map_cons, List.map_nil, ↓reduceIte, Nat.reduceEqDiff, Nat.reduceLT, Nat.reduceSub, Nat.reduceAdd, Nat.reduceMul, implies_true, true_and, and_true, cond_true, cond_false]; rfl) (fun hb => ?_) (fun hb => ?_)  -- t52
  · skip
    have he : earlyB s clock more a b = true := hb
    have hq : nbackB s clock more a b = true := by unfold nbackB; rw [he, cond_true]
    refine awp_reg zs [10] fun K hK => ?_  -- region 3
    try simp only [go_sem, List.map_cons, List.map_nil, ↓reduceIte, Nat.reduceEqDiff, Nat.reduceLT, Nat.reduceSub, Nat.reduceAdd, Nat.reduceMul, implies_true, true_and, and_true, cond_true, cond_false]
    iterate 14 (first | (refine And.intro ?_ ?_; · first | omega | assumption | (simp; done) | (intros; simp_all; done) | decide) | skip)
    refine hK _ _ _ ?_
    clear hK K
    refine awp_ret ?_
    try simp only [go_sem, List.map_cons, List.map_nil, ↓reduceIte, Nat.reduceEqDiff, Nat.reduceLT, Nat.reduceSub, Nat.reduceAdd, Nat.reduceMul, implies_true, true_and, and_true, cond_true, cond_false]
    refine ⟨_, rfl, ?_, Frz.eq ?_ trivial⟩
    · intro k hk; have h0 : k ≠ n := by omega
      simp [Heap.put, h0]
    · first | (rw [hq]; done) | (rw [hq, ← hd, hx]; rfl) | (rw [hq, ← hd, hge]; simp)
  · skip
    have he : earlyB s clock more a b = false := hb
    refine awp_skip ?_
    try simp only [go_sem, List.map_cons, List.map_nil, ↓reduceIte, Nat.reduceEqDiff, Nat.reduceLT, Nat.reduceSub, Nat.reduceAdd, Nat.reduceMul, implies_true, true_and, and_true, cond_true, cond_false]
    refine hK1 _ _ _ ?_
    first | clear hK1 K1 | skip
    refine awp_reg zs [1, 2, 3, 4, 5, 12, 13] fun K hK => ?_  -- region 4
    try simp only [go_sem, List.map_cons, List.map_nil, ↓reduceIte, Nat.reduceEqDiff, Nat.reduceLT, Nat.reduceSub, Nat.reduceAdd, Nat.reduceMul, implies_true, true_and, and_true, cond_true, cond_false]
    iterate 14 (first | (refine And.intro ?_ ?_; · first | omega | assumption | (simp; done) | (intros; simp_all; done) | decide) | skip)
    refine callK_use Try.func19 rfl rfl rfl ((c_retain_Vis s clock a (by omega) _ _)) ?_
    try simp only [go_sem, List.map_cons, List.map_nil, ↓reduceIte, Nat.reduceEqDiff, Nat.reduceLT, Nat.reduceSub, Nat.reduceAdd, Nat.reduceMul, implies_true, true_and, and_true, cond_true, cond_false]
    iterate 14 (first | (refine And.intro ?_ ?_; · first | omega | assumption | (simp; done) | (intros; simp_all; done) | decide) | skip)
    refine hK _ _ _ ?_
    clear hK K
    refine awp_drw rfl zs [3, 12, 13, 14, 15] [.q, .m, .m, .q, .m, .m, .c, .c, .m, .q, .q, .q, .q] (by kernel_rfl) (fun _ _ _ _ _ h => h) fun K hK => ?_  -- region 5
    try simp only [go_sem, List.map_cons, List.map_nil, ↓reduceIte, Nat.reduceEqDiff, Nat.reduceLT, Nat.reduceSub, Nat.reduceAdd, Nat.reduceMul, implies_true, true_and, and_true, cond_true, cond_false]
    iterate 14 (first | (refine And.intro ?_ ?_; · first | omega | assumption | (simp; done) | (intros; simp_all; done) | decide) | skip)
    refine callQG_use Try.func14 rfl rfl rfl (fun _ n => (c_law_join a b (by omega) (by omega) hfa hfb _ _)) ?_
    try simp only [go_sem, List.map_cons, List.map_nil, ↓reduceIte, Nat.reduceEqDiff, Nat.reduceLT, Nat.reduceSub, Nat.reduceAdd, Nat.reduceMul, implies_true, true_and, and_true, cond_true, cond_false]
    iterate 14 (first | (refine And.intro ?_ ?_; · first | omega | assumption | (simp; done) | (intros; simp_all; done) | decide) | skip)
    refine callQG_use Try.func19 rfl rfl rfl (fun _ n => (c_retain_Vis s (IntKind.i64.wrap (clock + more)) (a ++ b) hab _ _)) ?_
    try simp only [go_sem, List.map_cons, List.map_nil, ↓reduceIte, Nat.reduceEqDiff, Nat.reduceLT, Nat.reduceSub, Nat.reduceAdd, Nat.reduceMul, implies_true, true_and, and_true, cond_true, cond_false]
    iterate 14 (first | (refine And.intro ?_ ?_; · first | omega | assumption | (simp; done) | (intros; simp_all; done) | decide) | skip)
    refine hK _ _ _ ?_
    clear hK K
    refine awp_seq_k fun K2 hK2 => ?_
    refine awp_reg zs [3, 12, 14, 79] fun K hK => ?_  -- region 6
    try simp only [go_sem, List.map_cons, List.map_nil, ↓reduceIte, Nat.reduceEqDiff, Nat.reduceLT, Nat.reduceSub, Nat.reduceAdd, Nat.reduceMul, implies_true, true_and, and_true, cond_true, cond_false]
    iterate 14 (first | (refine And.intro ?_ ?_; · first | omega | assumption | (simp; done) | (intros; simp_all; done) | decide) | skip)
    refine callK_use Try.func16 rfl rfl rfl ((by apply c_law_num <;> first | assumption | omega)) ?_
    try simp only [go_sem, List.map_cons, List.map_nil, ↓reduceIte, Nat.reduceEqDiff, Nat.reduceLT, Nat.reduceSub, Nat.reduceAdd, Nat.reduceMul, implies_true, true_and, and_true, cond_true, cond_false]
    iterate 14 (first | (refine And.intro ?_ ?_; · first | omega | assumption | (simp; done) | (intros; simp_all; done) | decide) | skip)
    refine callG_use Try.func16 rfl rfl rfl (fun _ => (by apply c_law_num <;> first | assumption | omega)) ?_
    try simp only [go_sem, List.map_cons, List.map_nil, ↓reduceIte, Nat.reduceEqDiff, Nat.reduceLT, Nat.reduceSub, Nat.reduceAdd, Nat.reduceMul, implies_true, true_and, and_true, cond_true, cond_false]
    iterate 14 (first | (refine And.intro ?_ ?_; · first | omega | assumption | (simp; done) | (intros; simp_all; done) | decide) | skip)
    refine hK _ _ _ ?_
    clear hK K
    refine awp_cond (b := _) (by simp only [go_sem, List.map_cons, List.map_nil, ↓reduceIte, Nat.reduceEqDiff, Nat.reduceLT, Nat.reduceSub, Nat.reduceAdd, Nat.reduceMul, implies_true, true_and, and_true, cond_true, cond_false]; rfl) (fun hb => ?_) (fun hb => ?_)  -- t79
    · skip
      have h2 : (bif (visE s clock a).2 != 0 then true else (visE s (IntKind.i64.wrap (clock + more)) (a ++ b)).2 != 0) = true := hb
      have hq : nbackB s clock more a b = false := by unfold nbackB; rw [he, h2, cond_false, cond_true]
      refine awp_reg zs [10] fun K hK => ?_  -- region 7
      try simp only [go_sem, List.map_cons, List.map_nil, ↓reduceIte, Nat.reduceEqDiff, Nat.reduceLT, Nat.reduceSub, Nat.reduceAdd, Nat.reduceMul, implies_true, true_and, and_true, cond_true, cond_false]
      iterate 14 (first | (refine And.intro ?_ ?_; · first | omega | assumption | (simp; done) | (intros; simp_all; done) | decide) | skip)
      refine hK _ _ _ ?_
      clear hK K
      refine awp_ret ?_
      try simp only [go_sem, List.map_cons, List.map_nil, ↓reduceIte, Nat.reduceEqDiff, Nat.reduceLT, Nat.reduceSub, Nat.reduceAdd, Nat.reduceMul, implies_true, true_and, and_true, cond_true, cond_false]
      refine ⟨_, rfl, ?_, Frz.eq ?_ trivial⟩
      · intro k hk; have h0 : k ≠ n := by omega
        simp [Heap.put, h0]
      · first | (rw [hq]; done) | (rw [hq, ← hd, hx]; rfl) | (rw [hq, ← hd, hge]; simp)
    · skip
      have h2 : (bif (visE s clock a).2 != 0 then true else (visE s (IntKind.i64.wrap (clock + more)) (a ++ b)).2 != 0) = false := hb
      have hq : nbackB s clock more a b = !(a.any fun e => backX (visE s clock a).1 (visE s (IntKind.i64.wrap (clock + more)) (a ++ b)).1 e) := by unfold nbackB; rw [he, h2]; rfl
      generalize (visE s clock a).1 = v at *
      generalize (visE s (IntKind.i64.wrap (clock + more)) (a ++ b)).1 = w at *
      refine awp_skip ?_
      try simp only [go_sem, List.map_cons, List.map_nil, ↓reduceIte, Nat.reduceEqDiff, Nat.reduceLT, Nat.reduceSub, Nat.reduceAdd, Nat.reduceMul, implies_true, true_and, and_true, cond_true, cond_false]
      refine hK2 _ _ _ ?_
      first | clear hK2 K2 | skip
      refine awp_seq_k fun K3 hK3 => ?_
      refine awp_reg zs [3, 12, 14, 16] fun K hK => ?_  -- region 8
      try simp only [go_sem, List.map_cons, List.map_nil, ↓reduceIte, Nat.reduceEqDiff, Nat.reduceLT, Nat.reduceSub, Nat.reduceAdd, Nat.reduceMul, implies_true, true_and, and_true, cond_true, cond_false]
      iterate 14 (first | (refine And.intro ?_ ?_; · first | omega | assumption | (simp; done) | (intros; simp_all; done) | decide) | skip)
      refine hK _ _ _ ?_
      clear hK K
      refine awp_block ?_
      -- loop 0: head [3, 12, 14, 16]
      refine awp_loop (fun T' H' n' => ∃ i : Nat, i ≤ a.length ∧ T' = tl [(3, .sl 7 (a.map entAV)), (12, .sl 7 (v.map entAV)), (14, .sl 7 (w.map entAV)), (16, .int .i64 i)] ∧ H' = H.put n (some (.arr 0 1 [schAV s])) ∧ n' = n + 1 ∧ (a.drop i).any (backX v w) = a.any (backX v w)) (fun T' _ _ => a.length - iv (T' 16)) ?_ ?_
      · skip
        exact ⟨0, Nat.zero_le _, rfl, rfl, rfl, rfl⟩
      intro T1 H1 n1
      rintro ⟨i, hi, rfl, rfl, rfl, hd⟩
      refine awp_seq_k fun K4 hK4 => ?_
      refine awp_reg zs [3, 12, 14, 16, 83] fun K hK => ?_  -- region 9
      try simp only [go_sem, List.map_cons, List.map_nil, ↓reduceIte, Nat.reduceEqDiff, Nat.reduceLT, Nat.reduceSub, Nat.reduceAdd, Nat.reduceMul, implies_true, true_and, and_true, cond_true, cond_false]
      iterate 14 (first | (refine And.intro ?_ ?_; · first | omega | assumption | (simp; done) | (intros; simp_all; done) | decide) | skip)
      refine hK _ _ _ ?_
      clear hK K
      refine awp_cond (b := _) (by simp only [go_sem, List.map_cons, List.map_nil, ↓reduceIte, Nat.reduceEqDiff, Nat.reduceLT, Nat.reduceSub, Nat.reduceAdd, Nat.reduceMul, implies_true, true_and, and_true, cond_true, cond_false]; rfl) (fun hb => ?_) (fun hb => ?_)  -- t83
      · skip
        have hlt : i < a.length := by simpa using hb
        have hn1 : nth (a.map entAV) i = entAV (a.getD i default) := nth_map entAV a i hlt
        rw [drop_cons a i hlt, List.any_cons] at hd
        generalize a.getD i default = x at *
        refine awp_skip ?_
        try simp only [go_sem, List.map_cons, List.map_nil, ↓reduceIte, Nat.reduceEqDiff, Nat.reduceLT, Nat.reduceSub, Nat.reduceAdd, Nat.reduceMul, implies_true, true_and, and_true, cond_true, cond_false]
        refine hK4 _ _ _ ?_
        first | clear hK4 K4 | skip
        refine awp_seq_k fun K5 hK5 => ?_
        refine awp_block ?_
        refine awp_reg zs [3, 12, 14, 16, 108] fun K hK => ?_  -- region 11
        try simp only [go_sem, List.map_cons, List.map_nil, ↓reduceIte, Nat.reduceEqDiff, Nat.reduceLT, Nat.reduceSub, Nat.reduceAdd, Nat.reduceMul, implies_true, true_and, and_true, cond_true, cond_false, Int.toNat_natCast, hn1]
        iterate 14 (first | (refine And.intro ?_ ?_; · first | (intro h9; omega) | omega | assumption | (simp; done) | (intros; simp_all; done) | decide) | skip)
        refine callG_use Try.func21 rfl rfl rfl (fun _ => (c_law_shown v x hv _ _)) ?_
        try simp only [go_sem, List.map_cons, List.map_nil, ↓reduceIte, Nat.reduceEqDiff, Nat.reduceLT, Nat.reduceSub, Nat.reduceAdd, Nat.reduceMul, implies_true, true_and, and_true, cond_true, cond_false, Int.toNat_natCast, hn1]
        iterate 14 (first | (refine And.intro ?_ ?_; · first | (intro h9; omega) | omega | assumption | (simp; done) | (intros; simp_all; done) | decide) | skip)
        refine callG_use Try.func21 rfl rfl rfl (fun _ => (c_law_shown w x hw _ _)) ?_
        try simp only [go_sem, List.map_cons, List.map_nil, ↓reduceIte, Nat.reduceEqDiff, Nat.reduceLT, Nat.reduceSub, Nat.reduceAdd, Nat.reduceMul, implies_true, true_and, and_true, cond_true, cond_false, Int.toNat_natCast, hn1]
        iterate 14 (first | (refine And.intro ?_ ?_; · first | (intro h9; omega) | omega | assumption | (simp; done) | (intros; simp_all; done) | decide) | skip)
        refine hK _ _ _ ?_
        clear hK K
        refine awp_cond (b := _) (by simp only [go_sem, List.map_cons, List.map_nil, ↓reduceIte, Nat.reduceEqDiff, Nat.reduceLT, Nat.reduceSub, Nat.reduceAdd, Nat.reduceMul, implies_true, true_and, and_true, cond_true, cond_false]; rfl) (fun hb => ?_) (fun hb => ?_)  -- t108
        · skip
          have hx : backX v w x = true := hb
          refine awp_reg zs [10] fun K hK => ?_  -- region 12
          try simp only [go_sem, List.map_cons, List.map_nil, ↓reduceIte, Nat.reduceEqDiff, Nat.reduceLT, Nat.reduceSub, Nat.reduceAdd, Nat.reduceMul, implies_true, true_and, and_true, cond_true, cond_false]
          iterate 14 (first | (refine And.intro ?_ ?_; · first | omega | assumption | (simp; done) | (intros; simp_all; done) | decide) | skip)
          refine hK _ _ _ ?_
          clear hK K
          refine awp_ret ?_
          try simp only [go_sem, List.map_cons, List.map_nil, ↓reduceIte, Nat.reduceEqDiff, Nat.reduceLT, Nat.reduceSub, Nat.reduceAdd, Nat.reduceMul, implies_true, true_and, and_true, cond_true, cond_false]
          refine ⟨_, rfl, ?_, Frz.eq ?_ trivial⟩
          · intro k hk; have h0 : k ≠ n := by omega
            simp [Heap.put, h0]
          · first | (rw [hq]; done) | (rw [hq, ← hd, hx]; rfl) | (rw [hq, ← hd, hge]; simp)
        · skip
          have hx : backX v w x = false := hb
          refine awp_skip ?_
          try simp only [go_sem, List.map_cons, List.map_nil, ↓reduceIte, Nat.reduceEqDiff, Nat.reduceLT, Nat.reduceSub, Nat.reduceAdd, Nat.reduceMul, implies_true, true_and, and_true, cond_true, cond_false]
          refine hK5 _ _ _ ?_
          first | clear hK5 K5 | skip
          refine awp_reg1 zs [3, 12, 14, 16] fun K hK => ?_  -- region 10
          try simp only [go_sem, List.map_cons, List.map_nil, ↓reduceIte, Nat.reduceEqDiff, Nat.reduceLT, Nat.reduceSub, Nat.reduceAdd, Nat.reduceMul, implies_true, true_and, and_true, cond_true, cond_false]
          iterate 14 (first | (refine And.intro ?_ ?_; · first | omega | assumption | (simp; done) | (intros; simp_all; done) | decide) | skip)
          refine hK _ _ _ ?_
          clear hK K
          try simp only [go_sem, List.map_cons, List.map_nil, ↓reduceIte, Nat.reduceEqDiff, Nat.reduceLT, Nat.reduceSub, Nat.reduceAdd, Nat.reduceMul, implies_true, true_and, and_true, cond_true, cond_false]
          refine ⟨⟨i + 1, by omega, by rw [w1 (by omega)], by rw [← hd, hx]; rfl⟩, by rw [w1 (by omega)]; simp; omega⟩
      · skip
        have hge : i = a.length := by simp at hb; omega
        refine awp_exit ?_
        try simp only [go_sem, List.map_cons, List.map_nil, ↓reduceIte, Nat.reduceEqDiff, Nat.reduceLT, Nat.reduceSub, Nat.reduceAdd, Nat.reduceMul, implies_true, true_and, and_true, cond_true, cond_false]
        refine hK3 _ _ _ ?_
        first | clear hK3 K3 | skip
        refine awp_reg zs [10] fun K hK => ?_  -- region 13
        try simp only [go_sem, List.map_cons, List.map_nil, ↓reduceIte, Nat.reduceEqDiff, Nat.reduceLT, Nat.reduceSub, Nat.reduceAdd, Nat.reduceMul, implies_true, true_and, and_true, cond_true, cond_false]
        iterate 14 (first | (refine And.intro ?_ ?_; · first | omega | assumption | (simp; done) | (intros; simp_all; done) | decide) | skip)
        refine hK _ _ _ ?_
        clear hK K
        refine awp_ret ?_
        try simp only [go_sem, List.map_cons, List.map_nil, ↓reduceIte, Nat.reduceEqDiff, Nat.reduceLT, Nat.reduceSub, Nat.reduceAdd, Nat.reduceMul, implies_true, true_and, and_true, cond_true, cond_false]
        refine ⟨_, rfl, ?_, Frz.eq ?_ trivial⟩
        · intro k hk; have h0 : k ≠ n := by omega
          simp [Heap.put, h0]
        · first | (rw [hq]; done) | (rw [hq, ← hd, hx]; rfl) | (rw [hq, ← hd, hge]; simp)

def unseenB (s : List Fml) (clock more t n : Int) (a b : List Ent) : Bool :=
  bif earlyB s clock more a b then true
  else bif (squashE s clock false 0 a).2 == 0 then agreeB s (IntKind.i64.wrap (clock + more)) t n (a ++ b) ((squashE s clock false 0 a).1 ++ b) else false

set_option maxRecDepth 100000 in
set_option maxHeartbeats 1600000 in
theorem c_law_RetainNeverSeen (s : List Fml) (clock more t vn : Int) (a b : List Ent) (ha : a.length ≤ 10000000) (hb9 : b.length ≤ 10000000) (hfa : ∀ e ∈ a, e.fits) (hfb : ∀ e ∈ b, e.fits)
    (hr : (readE s (IntKind.i64.wrap (clock + more)) t vn (a ++ b)).1.length < 4611686018427387904) (hv : (visE s (IntKind.i64.wrap (clock + more)) (a ++ b)).1.length < 4611686018427387904) (H : Heap) (n : Nat) :
    Ret Try.prog 3 [schAV s, .int .i64 clock, .int .i64 more, .int .i64 t, .int .i64 vn, entsAV a, entsAV b] H n (.bool (unseenB s clock more t vn a b)) H n := by
  have hab : (a ++ b).length ≤ 100000000 := by simp; omega
  have hsl := squashE_length s clock false 0 a
  have hlb : ((squashE s clock false 0 a).1 ++ b).length ≤ 100000000 := by simp; omega
  refine Ret.fin ?_
  refine acalls_of_awp Try.func3 rfl Try.ntmps3 (congrArg Array.toList Try.results3) (by simp) ?_
  simp only [go_sem]
  refine awp_reg zs [1, 2, 3, 4, 5, 6, 7] fun K hK => ?_  -- region 0
  try simp only [go_sem, List.map_cons, List.map_nil, ↓reduceIte, Nat.reduceEqDiff, Nat.reduceLT, Nat.reduceSub, Nat.reduceAdd, Nat.reduceMul, implies_true, true_and, and_true, cond_true, cond_false]
  iterate 14 (first | (refine And.intro ?_ ?_; · first | omega | assumption | (simp; done) | (intros; simp_all; done) | decide) | skip)
  refine hK _ _ _ ?_
  clear hK K
  refine awp_reg zs [1, 2, 3, 4, 5, 6, 7, 15] fun K hK => ?_  -- region 1
  try simp only [go_sem, List.map_cons, List.map_nil, ↓reduceIte, Nat.reduceEqDiff, Nat.reduceLT, Nat.reduceSub, Nat.reduceAdd, Nat.reduceMul, implies_true, true_and, and_true, cond_true, cond_false]
  iterate 14 (first | (refine And.intro ?_ ?_; · first | omega | assumption | (simp; done) | (intros; simp_all; done) | decide) | skip)
  refine callK_use Try.func11 rfl rfl rfl ((c_law_started _ _)) ?_
  try simp only [go_sem, List.map_cons, List.map_nil, ↓reduceIte, Nat.reduceEqDiff, Nat.reduceLT, Nat.reduceSub, Nat.reduceAdd, Nat.reduceMul, implies_true, true_and, and_true, cond_true, cond_false]
  iterate 14 (first | (refine And.intro ?_ ?_; · first | omega | assumption | (simp; done) | (intros; simp_all; done) | decide) | skip)
  refine hK _ _ _ ?_
  clear hK K
  refine awp_seq_k fun K1 hK1 => ?_
  refine awp_drw rfl zs [1, 2, 3, 4, 5, 6, 7, 15, 53] [.m, .q, .m, .m, .q, .q, .m, .m, .q, .q, .m, .m, .q, .q, .m, .m, .m, .q, .q, .q, .m, .m, .m, .c, .q, .q, .m, .q, .m, .m, .m, .c, .c, .q, .q] (by kernel_rfl) (fun _ _ _ _ _ h => h) fun K hK => ?_  -- region 2
  try simp only [go_sem, List.map_cons, List.map_nil, ↓reduceIte, Nat.reduceEqDiff, Nat.reduceLT, Nat.reduceSub, Nat.reduceAdd, Nat.reduceMul, implies_true, true_and, and_true, cond_true, cond_false]
  iterate 14 (first | (refine And.intro ?_ ?_; · first | omega | assumption | (simp; done) | (intros; simp_all; done) | decide) | skip)
  refine callQG_use Try.func12 rfl rfl rfl (fun _ n => (c_law_apart a b (by omega) (by omega) _ _)) ?_
  try simp only [go_sem, List.map_cons, List.map_nil, ↓reduceIte, Nat.reduceEqDiff, Nat.reduceLT, Nat.reduceSub, Nat.reduceAdd, Nat.reduceMul, implies_true, true_and, and_true, cond_true, cond_false]
  iterate 14 (first | (refine And.intro ?_ ?_; · first | omega | assumption | (simp; done) | (intros; simp_all; done) | decide) | skip)
  refine callQG_use Try.func14 rfl rfl rfl (fun _ n => (c_law_join a b (by omega) (by omega) hfa hfb _ _)) ?_
  try simp only [go_sem, List.map_cons, List.map_nil, ↓reduceIte, Nat.reduceEqDiff, Nat.reduceLT, Nat.reduceSub, Nat.reduceAdd, Nat.reduceMul, implies_true, true_and, and_true, cond_true, cond_false]
  iterate 14 (first | (refine And.intro ?_ ?_; · first | omega | assumption | (simp; done) | (intros; simp_all; done) | decide) | skip)
  refine callQG_use Try.func13 rfl rfl rfl (fun _ n => (c_law_sound s clock (a ++ b) hab _ _)) ?_
  try simp only [go_sem, List.map_cons, List.map_nil, ↓reduceIte, Nat.reduceEqDiff, Nat.reduceLT, Nat.reduceSub, Nat.reduceAdd, Nat.reduceMul, implies_true, true_and, and_true, cond_true, cond_false]
  iterate 14 (first | (refine And.intro ?_ ?_; · first | omega | assumption | (simp; done) | (intros; simp_all; done) | decide) | skip)
  refine hK _ _ _ ?_
  clear hK K
  refine awp_cond (b := _) (by simp only [go_sem, List.map_cons, List.map_nil, ↓reduceIte, Nat.reduceEqDiff, Nat.reduceLT, Nat.reduceSub, Nat.reduceAdd, Nat.reduceMul, implies_true, true_and, and_true, cond_true, cond_false]; rfl) (fun hb => ?_) (fun hb => ?_)  -- t53
  · skip
    have he : earlyB s clock more a b = true := hb
    have hq : unseenB s clock more t vn a b = true := by unfold unseenB; rw [he, cond_true]
    refine awp_reg zs [14] fun K hK => ?_  -- region 3
    try simp only [go_sem, List.map_cons, List.map_nil, ↓reduceIte, Nat.reduceEqDiff, Nat.reduceLT, Nat.reduceSub, Nat.reduceAdd, Nat.reduceMul, implies_true, true_and, and_true, cond_true, cond_false]
    iterate 14 (first | (refine And.intro ?_ ?_; · first | omega | assumption | (simp; done) | (intros; simp_all; done) | decide) | skip)
    refine hK _ _ _ ?_
    clear hK K
    refine awp_ret ?_
    try simp only [go_sem, List.map_cons, List.map_nil, ↓reduceIte, Nat.reduceEqDiff, Nat.reduceLT, Nat.reduceSub, Nat.reduceAdd, Nat.reduceMul, implies_true, true_and, and_true, cond_true, cond_false]
    refine ⟨_, rfl, ?_, Frz.eq ?_ trivial⟩
    · intro k hk; have h0 : k ≠ n := by omega
      simp [Heap.put, h0]
    · rw [hq]
  · skip
    have he : earlyB s clock more a b = false := hb
    have hq : unseenB s clock more t vn a b = bif (squashE s clock false 0 a).2 == 0 then agreeB s (IntKind.i64.wrap (clock + more)) t vn (a ++ b) ((squashE s clock false 0 a).1 ++ b) else false := by unfold unseenB; rw [he, cond_false]
    refine awp_skip ?_
    try simp only [go_sem, List.map_cons, List.map_nil, ↓reduceIte, Nat.reduceEqDiff, Nat.reduceLT, Nat.reduceSub, Nat.reduceAdd, Nat.reduceMul, implies_true, true_and, and_true, cond_true, cond_false]
    refine hK1 _ _ _ ?_
    first | clear hK1 K1 | skip
    refine awp_reg zs [1, 2, 3, 4, 5, 6, 7, 16, 17] fun K hK => ?_  -- region 4
    try simp only [go_sem, List.map_cons, List.map_nil, ↓reduceIte, Nat.reduceEqDiff, Nat.reduceLT, Nat.reduceSub, Nat.reduceAdd, Nat.reduceMul, implies_true, true_and, and_true, cond_true, cond_false]
    iterate 14 (first | (refine And.intro ?_ ?_; · first | omega | assumption | (simp; done) | (intros; simp_all; done) | decide) | skip)
    refine callK_use Try.func15 rfl rfl rfl ((c_retain_Squash s clock 0 false a (by omega) _ _)) ?_
    try simp only [go_sem, List.map_cons, List.map_nil, ↓reduceIte, Nat.reduceEqDiff, Nat.reduceLT, Nat.reduceSub, Nat.reduceAdd, Nat.reduceMul, implies_true, true_and, and_true, cond_true, cond_false]
    iterate 14 (first | (refine And.intro ?_ ?_; · first | omega | assumption | (simp; done) | (intros; simp_all; done) | decide) | skip)
    refine hK _ _ _ ?_
    clear hK K
    refine awp_drw rfl zs [14] [.m, .c, .q, .m, .q, .m, .m, .q, .m, .m, .m, .m, .c, .m, .m, .c, .c, .q, .q] (by kernel_rfl) (fun _ _ _ _ _ h => h) fun K hK => ?_  -- region 5
    try simp only [go_sem, List.map_cons, List.map_nil, ↓reduceIte, Nat.reduceEqDiff, Nat.reduceLT, Nat.reduceSub, Nat.reduceAdd, Nat.reduceMul, implies_true, true_and, and_true, cond_true, cond_false]
    iterate 14 (first | (refine And.intro ?_ ?_; · first | omega | assumption | (simp; done) | (intros; simp_all; done) | decide) | skip)
    refine callQG_use Try.func16 rfl rfl rfl (fun _ n => (by apply c_law_num <;> first | assumption | omega)) ?_
    try simp only [go_sem, List.map_cons, List.map_nil, ↓reduceIte, Nat.reduceEqDiff, Nat.reduceLT, Nat.reduceSub, Nat.reduceAdd, Nat.reduceMul, implies_true, true_and, and_true, cond_true, cond_false]
    iterate 14 (first | (refine And.intro ?_ ?_; · first | omega | assumption | (simp; done) | (intros; simp_all; done) | decide) | skip)
    refine callQG_use Try.func14 rfl rfl rfl (fun _ n => (c_law_join a b (by omega) (by omega) hfa hfb _ _)) ?_
    try simp only [go_sem, List.map_cons, List.map_nil, ↓reduceIte, Nat.reduceEqDiff, Nat.reduceLT, Nat.reduceSub, Nat.reduceAdd, Nat.reduceMul, implies_true, true_and, and_true, cond_true, cond_false]
    iterate 14 (first | (refine And.intro ?_ ?_; · first | omega | assumption | (simp; done) | (intros; simp_all; done) | decide) | skip)
    refine callQG_use Try.func14 rfl rfl rfl (fun _ n => (c_law_join (squashE s clock false 0 a).1 b (by omega) (by omega) (squashE_fits s clock 0 false a) hfb _ _)) ?_
    try simp only [go_sem, List.map_cons, List.map_nil, ↓reduceIte, Nat.reduceEqDiff, Nat.reduceLT, Nat.reduceSub, Nat.reduceAdd, Nat.reduceMul, implies_true, true_and, and_true, cond_true, cond_false]
    iterate 14 (first | (refine And.intro ?_ ?_; · first | omega | assumption | (simp; done) | (intros; simp_all; done) | decide) | skip)
    refine callQG_use Try.func17 rfl rfl rfl (fun _ n => (c_law_agree s (IntKind.i64.wrap (clock + more)) t vn (a ++ b) ((squashE s clock false 0 a).1 ++ b) hab hlb hr hv _ _)) ?_
    try simp only [go_sem, List.map_cons, List.map_nil, ↓reduceIte, Nat.reduceEqDiff, Nat.reduceLT, Nat.reduceSub, Nat.reduceAdd, Nat.reduceMul, implies_true, true_and, and_true, cond_true, cond_false]
    iterate 14 (first | (refine And.intro ?_ ?_; · first | omega | assumption | (simp; done) | (intros; simp_all; done) | decide) | skip)
    refine hK _ _ _ ?_
    clear hK K
    refine awp_ret ?_
    try simp only [go_sem, List.map_cons, List.map_nil, ↓reduceIte, Nat.reduceEqDiff, Nat.reduceLT, Nat.reduceSub, Nat.reduceAdd, Nat.reduceMul, implies_true, true_and, and_true, cond_true, cond_false]
    refine ⟨_, rfl, ?_, Frz.eq ?_ trivial⟩
    · intro k hk; have h0 : k ≠ n := by omega
      simp [Heap.put, h0]
    · rw [hq]

def earlyM (s : List Fml) (clock more low : Int) (a b : List Ent) : Bool :=
  bif (bif (bif (bif (bif (bif decide (clock < 0) then true else decide (more < 0)) then true else decide (1099511627776 < clock)) then true else decide (IntKind.i64.wrap (1099511627776 - clock) < more)) then true else decide (low < 0)) then true else decide (1099511627776 < low)) then true else !((visE s clock (a ++ b)).2 == 0)
/-- is some entry behind not newer, or not above low? -/
def olderX (low : Int) (a : List Ent) (e : Ent) : Bool := decide (e.ts ≤ low) || a.any fun x => decide (e.seq ≤ x.seq)
def munseenB (s : List Fml) (clock more t n low : Int) (a b : List Ent) : Bool :=
  bif earlyM s clock more low a b then true
  else bif b.any (olderX low a) then true
  else bif (squashE s clock true low a).2 == 0 then agreeB s (IntKind.i64.wrap (clock + more)) t n (a ++ b) ((squashE s clock true low a).1 ++ b) else false

set_option maxRecDepth 100000 in
set_option maxHeartbeats 3200000 in
theorem c_law_RetainMajorUnseen (s : List Fml) (clock more t vn low : Int) (a b : List Ent) (ha : a.length ≤ 10000000) (hb9 : b.length ≤ 10000000) (hfa : ∀ e ∈ a, e.fits) (hfb : ∀ e ∈ b, e.fits)
    (hr : (readE s (IntKind.i64.wrap (clock + more)) t vn (a ++ b)).1.length < 4611686018427387904) (hv : (visE s (IntKind.i64.wrap (clock + more)) (a ++ b)).1.length < 4611686018427387904) (H : Heap) (n : Nat) :
    Ret Try.prog 4 [schAV s, .int .i64 clock, .int .i64 more, .int .i64 t, .int .i64 vn, .int .i64 low, entsAV a, entsAV b] H n (.bool (munseenB s clock more t vn low a b)) H n := by
  have hab : (a ++ b).length ≤ 100000000 := by simp; omega
  have hsl := squashE_length s clock true low a
  have hlb : ((squashE s clock true low a).1 ++ b).length ≤ 100000000 := by simp; omega
  refine Ret.fin ?_
  refine acalls_of_awp Try.func4 rfl Try.ntmps4 (congrArg Array.toList Try.results4) (by simp) ?_
  simp only [go_sem]
  refine awp_reg zs [1, 2, 3, 4, 5, 6, 7, 8] fun K hK => ?_  -- region 0
  try simp only [go_sem, List.map_cons, List.map_nil, ↓reduceIte, Nat.reduceEqDiff, Nat.reduceLT, Nat.reduceSub, Nat.reduceAdd, Nat.reduceMul, implies_true, true_and, and_true, cond_true, cond_false]
  iterate 14 (first | (refine And.intro ?_ ?_; · first | omega | assumption | (simp; done) | (intros; simp_all; done) | decide) | skip)
  refine hK _ _ _ ?_
  clear hK K
  refine awp_reg zs [1, 2, 3, 4, 5, 6, 7, 8, 17] fun K hK => ?_  -- region 1
  try simp only [go_sem, List.map_cons, List.map_nil, ↓reduceIte, Nat.reduceEqDiff, Nat.reduceLT, Nat.reduceSub, Nat.reduceAdd, Nat.reduceMul, implies_true, true_and, and_true, cond_true, cond_false]
  iterate 14 (first | (refine And.intro ?_ ?_; · first | omega | assumption | (simp; done) | (intros; simp_all; done) | decide) | skip)
  refine callK_use Try.func11 rfl rfl rfl ((c_law_started _ _)) ?_
  try simp only [go_sem, List.map_cons, List.map_nil, ↓reduceIte, Nat.reduceEqDiff, Nat.reduceLT, Nat.reduceSub, Nat.reduceAdd, Nat.reduceMul, implies_true, true_and, and_true, cond_true, cond_false]
  iterate 14 (first | (refine And.intro ?_ ?_; · first | omega | assumption | (simp; done) | (intros; simp_all; done) | decide) | skip)
  refine hK _ _ _ ?_
  clear hK K
  refine awp_seq_k fun K1 hK1 => ?_
  refine awp_drw rfl zs [1, 2, 3, 4, 5, 6, 7, 8, 17, 59] [.m, .q, .m, .m, .q, .q, .m, .m, .q, .q, .m, .m, .q, .q, .m, .m, .m, .q, .q, .q, .m, .m, .q, .q, .m, .m, .q, .q, .m, .q, .m, .m, .m, .c, .c, .q, .q] (by kernel_rfl) (fun _ _ _ _ _ h => h) fun K hK => ?_  -- region 2
  try simp only [go_sem, List.map_cons, List.map_nil, ↓reduceIte, Nat.reduceEqDiff, Nat.reduceLT, Nat.reduceSub, Nat.reduceAdd, Nat.reduceMul, implies_true, true_and, and_true, cond_true, cond_false]
  iterate 14 (first | (refine And.intro ?_ ?_; · first | omega | assumption | (simp; done) | (intros; simp_all; done) | decide) | skip)
  refine callQG_use Try.func14 rfl rfl rfl (fun _ n => (c_law_join a b (by omega) (by omega) hfa hfb _ _)) ?_
  try simp only [go_sem, List.map_cons, List.map_nil, ↓reduceIte, Nat.reduceEqDiff, Nat.reduceLT, Nat.reduceSub, Nat.reduceAdd, Nat.reduceMul, implies_true, true_and, and_true, cond_true, cond_false]
  iterate 14 (first | (refine And.intro ?_ ?_; · first | omega | assumption | (simp; done) | (intros; simp_all; done) | decide) | skip)
  refine callQG_use Try.func13 rfl rfl rfl (fun _ n => (c_law_sound s clock (a ++ b) hab _ _)) ?_
  try simp only [go_sem, List.map_cons, List.map_nil, ↓reduceIte, Nat.reduceEqDiff, Nat.reduceLT, Nat.reduceSub, Nat.reduceAdd, Nat.reduceMul, implies_true, true_and, and_true, cond_true, cond_false]
  iterate 14 (first | (refine And.intro ?_ ?_; · first | omega | assumption | (simp; done) | (intros; simp_all; done) | decide) | skip)
  refine hK _ _ _ ?_
  clear hK K
  refine awp_cond (b := _) (by simp only [go_sem, List.map_cons, List.map_nil, ↓reduceIte, Nat.reduceEqDiff, Nat.reduceLT, Nat.reduceSub, Nat.reduceAdd, Nat.reduceMul, implies_true, true_and, and_true, cond_true, cond_false]; rfl) (fun hb => ?_) (fun hb => ?_)  -- t59
  · skip
    have he : earlyM s clock more low a b = true := hb
    have hq : munseenB s clock more t vn low a b = true := by unfold munseenB; rw [he, cond_true]
    refine awp_reg zs [16] fun K hK => ?_  -- region 3
    try simp only [go_sem, List.map_cons, List.map_nil, ↓reduceIte, Nat.reduceEqDiff, Nat.reduceLT, Nat.reduceSub, Nat.reduceAdd, Nat.reduceMul, implies_true, true_and, and_true, cond_true, cond_false]
    iterate 14 (first | (refine And.intro ?_ ?_; · first | omega | assumption | (simp; done) | (intros; simp_all; done) | decide) | skip)
    refine hK _ _ _ ?_
    clear hK K
    refine awp_ret ?_
    try simp only [go_sem, List.map_cons, List.map_nil, ↓reduceIte, Nat.reduceEqDiff, Nat.reduceLT, Nat.reduceSub, Nat.reduceAdd, Nat.reduceMul, implies_true, true_and, and_true, cond_true, cond_false]
    refine ⟨_, rfl, ?_, Frz.eq ?_ trivial⟩
    · intro k hk; have h0 : k ≠ n := by omega
      simp [Heap.put, h0]
    · rw [hq]
  · skip
    have he : earlyM s clock more low a b = false := hb
    refine awp_skip ?_
    try simp only [go_sem, List.map_cons, List.map_nil, ↓reduceIte, Nat.reduceEqDiff, Nat.reduceLT, Nat.reduceSub, Nat.reduceAdd, Nat.reduceMul, implies_true, true_and, and_true, cond_true, cond_false]
    refine hK1 _ _ _ ?_
    first | clear hK1 K1 | skip
    refine awp_seq_k fun K2 hK2 => ?_
    refine awp_reg zs [1, 2, 3, 4, 5, 6, 7, 8, 18] fun K hK => ?_  -- region 4
    try simp only [go_sem, List.map_cons, List.map_nil, ↓reduceIte, Nat.reduceEqDiff, Nat.reduceLT, Nat.reduceSub, Nat.reduceAdd, Nat.reduceMul, implies_true, true_and, and_true, cond_true, cond_false]
    iterate 14 (first | (refine And.intro ?_ ?_; · first | omega | assumption | (simp; done) | (intros; simp_all; done) | decide) | skip)
    refine hK _ _ _ ?_
    clear hK K
    refine awp_block ?_
    -- loop 0: head [1, 2, 3, 4, 5, 6, 7, 8, 18]
    refine awp_loop (fun T' H' n' => ∃ i : Nat, i ≤ b.length ∧ T' = tl [(1, .int .i64 clock), (2, .int .i64 more), (3, .int .i64 t), (4, .int .i64 vn), (5, .int .i64 low), (6, .sl 7 (a.map entAV)), (7, .sl 7 (b.map entAV)), (8, .loc n 0 0 0 []), (18, .int .i64 i)] ∧ H' = H.put n (some (.arr 0 1 [schAV s])) ∧ n' = n + 1 ∧ (b.drop i).any (olderX low a) = b.any (olderX low a)) (fun T' _ _ => b.length - iv (T' 18)) ?_ ?_
    · skip
      exact ⟨0, Nat.zero_le _, rfl, rfl, rfl, rfl⟩
    intro T1 H1 n1
    rintro ⟨i, hi, rfl, rfl, rfl, hd⟩
    refine awp_seq_k fun K3 hK3 => ?_
    refine awp_reg zs [1, 2, 3, 4, 5, 6, 7, 8, 18, 64] fun K hK => ?_  -- region 5
    try simp only [go_sem, List.map_cons, List.map_nil, ↓reduceIte, Nat.reduceEqDiff, Nat.reduceLT, Nat.reduceSub, Nat.reduceAdd, Nat.reduceMul, implies_true, true_and, and_true, cond_true, cond_false]
    iterate 14 (first | (refine And.intro ?_ ?_; · first | omega | assumption | (simp; done) | (intros; simp_all; done) | decide) | skip)
    refine hK _ _ _ ?_
    clear hK K
    refine awp_cond (b := _) (by simp only [go_sem, List.map_cons, List.map_nil, ↓reduceIte, Nat.reduceEqDiff, Nat.reduceLT, Nat.reduceSub, Nat.reduceAdd, Nat.reduceMul, implies_true, true_and, and_true, cond_true, cond_false]; rfl) (fun hb => ?_) (fun hb => ?_)  -- t64
    · skip
      have hlt : i < b.length := by simpa using hb
      have hn1 : nth (b.map entAV) i = entAV (b.getD i default) := nth_map entAV b i hlt
      rw [drop_cons b i hlt, List.any_cons] at hd
      generalize b.getD i default = y at *
      refine awp_skip ?_
      try simp only [go_sem, List.map_cons, List.map_nil, ↓reduceIte, Nat.reduceEqDiff, Nat.reduceLT, Nat.reduceSub, Nat.reduceAdd, Nat.reduceMul, implies_true, true_and, and_true, cond_true, cond_false]
      refine hK3 _ _ _ ?_
      first | clear hK3 K3 | skip
      refine awp_seq_k fun K4 hK4 => ?_
      refine awp_block ?_
      refine awp_seq_k fun K5 hK5 => ?_
      refine awp_reg zs [1, 2, 3, 4, 5, 6, 7, 8, 18, 73] fun K hK => ?_  -- region 7
      try simp only [go_sem, List.map_cons, List.map_nil, ↓reduceIte, Nat.reduceEqDiff, Nat.reduceLT, Nat.reduceSub, Nat.reduceAdd, Nat.reduceMul, implies_true, true_and, and_true, cond_true, cond_false, Int.toNat_natCast, hn1]
      iterate 14 (first | (refine And.intro ?_ ?_; · first | omega | assumption | (simp; done) | (intros; simp_all; done) | decide) | skip)
      refine hK _ _ _ ?_
      clear hK K
      refine awp_cond (b := _) (by simp only [go_sem, List.map_cons, List.map_nil, ↓reduceIte, Nat.reduceEqDiff, Nat.reduceLT, Nat.reduceSub, Nat.reduceAdd, Nat.reduceMul, implies_true, true_and, and_true, cond_true, cond_false]; rfl) (fun hb => ?_) (fun hb => ?_)  -- t73
      · skip
        have hy : olderX low a y = true := by unfold olderX; rw [hb]; rfl
        have hq : munseenB s clock more t vn low a b = true := by unfold munseenB; rw [he, cond_false, ← hd, hy]; rfl
        refine awp_reg zs [16] fun K hK => ?_  -- region 8
        try simp only [go_sem, List.map_cons, List.map_nil, ↓reduceIte, Nat.reduceEqDiff, Nat.reduceLT, Nat.reduceSub, Nat.reduceAdd, Nat.reduceMul, implies_true, true_and, and_true, cond_true, cond_false]
        iterate 14 (first | (refine And.intro ?_ ?_; · first | omega | assumption | (simp; done) | (intros; simp_all; done) | decide) | skip)
        refine hK _ _ _ ?_
        clear hK K
        refine awp_ret ?_
        try simp only [go_sem, List.map_cons, List.map_nil, ↓reduceIte, Nat.reduceEqDiff, Nat.reduceLT, Nat.reduceSub, Nat.reduceAdd, Nat.reduceMul, implies_true, true_and, and_true, cond_true, cond_false]
        refine ⟨_, rfl, ?_, Frz.eq ?_ trivial⟩
        · intro k hk; have h0 : k ≠ n := by omega
          simp [Heap.put, h0]
        · rw [hq]
      · skip
        have hy1 : decide (y.ts ≤ low) = false := hb
        refine awp_skip ?_
        try simp only [go_sem, List.map_cons, List.map_nil, ↓reduceIte, Nat.reduceEqDiff, Nat.reduceLT, Nat.reduceSub, Nat.reduceAdd, Nat.reduceMul, implies_true, true_and, and_true, cond_true, cond_false]
        refine hK5 _ _ _ ?_
        first | clear hK5 K5 | skip
        refine awp_reg zs [1, 2, 3, 4, 5, 6, 7, 8, 18, 19] fun K hK => ?_  -- region 9
        try simp only [go_sem, List.map_cons, List.map_nil, ↓reduceIte, Nat.reduceEqDiff, Nat.reduceLT, Nat.reduceSub, Nat.reduceAdd, Nat.reduceMul, implies_true, true_and, and_true, cond_true, cond_false]
        iterate 14 (first | (refine And.intro ?_ ?_; · first | omega | assumption | (simp; done) | (intros; simp_all; done) | decide) | skip)
        refine hK _ _ _ ?_
        clear hK K
        refine awp_block ?_
        -- loop 1: head [1, 2, 3, 4, 5, 6, 7, 8, 18, 19]
        refine awp_loop (fun T' H' n' => ∃ j : Nat, j ≤ a.length ∧ T' = tl [(1, .int .i64 clock), (2, .int .i64 more), (3, .int .i64 t), (4, .int .i64 vn), (5, .int .i64 low), (6, .sl 7 (a.map entAV)), (7, .sl 7 (b.map entAV)), (8, .loc n 0 0 0 []), (18, .int .i64 i), (19, .int .i64 j)] ∧ H' = H.put n (some (.arr 0 1 [schAV s])) ∧ n' = n + 1 ∧ (a.drop j).any (fun x => decide (y.seq ≤ x.seq)) = a.any (fun x => decide (y.seq ≤ x.seq))) (fun T' _ _ => a.length - iv (T' 19)) ?_ ?_
        · skip
          exact ⟨0, Nat.zero_le _, rfl, rfl, rfl, rfl⟩
        intro T1 H1 n1
        rintro ⟨j, hj, rfl, rfl, rfl, hd2⟩
        refine awp_seq_k fun K6 hK6 => ?_
        refine awp_reg zs [1, 2, 3, 4, 5, 6, 7, 8, 18, 19, 77] fun K hK => ?_  -- region 10
        try simp only [go_sem, List.map_cons, List.map_nil, ↓reduceIte, Nat.reduceEqDiff, Nat.reduceLT, Nat.reduceSub, Nat.reduceAdd, Nat.reduceMul, implies_true, true_and, and_true, cond_true, cond_false]
        iterate 14 (first | (refine And.intro ?_ ?_; · first | omega | assumption | (simp; done) | (intros; simp_all; done) | decide) | skip)
        refine hK _ _ _ ?_
        clear hK K
        refine awp_cond (b := _) (by simp only [go_sem, List.map_cons, List.map_nil, ↓reduceIte, Nat.reduceEqDiff, Nat.reduceLT, Nat.reduceSub, Nat.reduceAdd, Nat.reduceMul, implies_true, true_and, and_true, cond_true, cond_false]; rfl) (fun hb => ?_) (fun hb => ?_)  -- t77
        · skip
          have hlt2 : j < a.length := by simpa using hb
          have hn2 : nth (a.map entAV) j = entAV (a.getD j default) := nth_map entAV a j hlt2
          rw [drop_cons a j hlt2, List.any_cons] at hd2
          generalize a.getD j default = x at *
          refine awp_skip ?_
          try simp only [go_sem, List.map_cons, List.map_nil, ↓reduceIte, Nat.reduceEqDiff, Nat.reduceLT, Nat.reduceSub, Nat.reduceAdd, Nat.reduceMul, implies_true, true_and, and_true, cond_true, cond_false]
          refine hK6 _ _ _ ?_
          first | clear hK6 K6 | skip
          refine awp_seq_k fun K7 hK7 => ?_
          refine awp_block ?_
          refine awp_drw rfl zs [1, 2, 3, 4, 5, 6, 7, 8, 18, 19, 90] [.m, .m, .q, .q, .q, .m, .m, .q, .q, .q, .q] (by kernel_rfl) (fun _ _ _ _ _ h => h) fun K hK => ?_  -- region 12
          try simp only [go_sem, List.map_cons, List.map_nil, ↓reduceIte, Nat.reduceEqDiff, Nat.reduceLT, Nat.reduceSub, Nat.reduceAdd, Nat.reduceMul, implies_true, true_and, and_true, cond_true, cond_false, Int.toNat_natCast, hn1, hn2]
          iterate 14 (first | (refine And.intro ?_ ?_; · first | omega | assumption | (simp; done) | (intros; simp_all; done) | decide) | skip)
          refine hK _ _ _ ?_
          clear hK K
          refine awp_cond (b := _) (by simp only [go_sem, List.map_cons, List.map_nil, ↓reduceIte, Nat.reduceEqDiff, Nat.reduceLT, Nat.reduceSub, Nat.reduceAdd, Nat.reduceMul, implies_true, true_and, and_true, cond_true, cond_false]; rfl) (fun hb => ?_) (fun hb => ?_)  -- t90
          · skip
            have hx : decide (y.seq ≤ x.seq) = true := hb
            have hq : munseenB s clock more t vn low a b = true := by unfold munseenB; rw [he, cond_false, ← hd]; unfold olderX; rw [← hd2, hx]; simp
            refine awp_reg zs [16] fun K hK => ?_  -- region 13
            try simp only [go_sem, List.map_cons, List.map_nil, ↓reduceIte, Nat.reduceEqDiff, Nat.reduceLT, Nat.reduceSub, Nat.reduceAdd, Nat.reduceMul, implies_true, true_and, and_true, cond_true, cond_false]
            iterate 14 (first | (refine And.intro ?_ ?_; · first | omega | assumption | (simp; done) | (intros; simp_all; done) | decide) | skip)
            refine hK _ _ _ ?_
            clear hK K
            refine awp_ret ?_
            try simp only [go_sem, List.map_cons, List.map_nil, ↓reduceIte, Nat.reduceEqDiff, Nat.reduceLT, Nat.reduceSub, Nat.reduceAdd, Nat.reduceMul, implies_true, true_and, and_true, cond_true, cond_false]
            refine ⟨_, rfl, ?_, Frz.eq ?_ trivial⟩
            · intro k hk; have h0 : k ≠ n := by omega
              simp [Heap.put, h0]
            · rw [hq]
          · skip
            have hx : decide (y.seq ≤ x.seq) = false := hb
            refine awp_skip ?_
            try simp only [go_sem, List.map_cons, List.map_nil, ↓reduceIte, Nat.reduceEqDiff, Nat.reduceLT, Nat.reduceSub, Nat.reduceAdd, Nat.reduceMul, implies_true, true_and, and_true, cond_true, cond_false]
            refine hK7 _ _ _ ?_
            first | clear hK7 K7 | skip
            refine awp_reg1 zs [1, 2, 3, 4, 5, 6, 7, 8, 18, 19] fun K hK => ?_  -- region 11
            try simp only [go_sem, List.map_cons, List.map_nil, ↓reduceIte, Nat.reduceEqDiff, Nat.reduceLT, Nat.reduceSub, Nat.reduceAdd, Nat.reduceMul, implies_true, true_and, and_true, cond_true, cond_false]
            iterate 14 (first | (refine And.intro ?_ ?_; · first | omega | assumption | (simp; done) | (intros; simp_all; done) | decide) | skip)
            refine hK _ _ _ ?_
            clear hK K
            try simp only [go_sem, List.map_cons, List.map_nil, ↓reduceIte, Nat.reduceEqDiff, Nat.reduceLT, Nat.reduceSub, Nat.reduceAdd, Nat.reduceMul, implies_true, true_and, and_true, cond_true, cond_false]
            refine ⟨⟨j + 1, by omega, by rw [w1 (by omega)], by rw [← hd2, hx]; rfl⟩, by rw [w1 (by omega)]; simp; omega⟩
        · skip
          have hge2 : j = a.length := by simp at hb; omega
          have hy : olderX low a y = false := by unfold olderX; rw [hy1, ← hd2, hge2]; simp
          refine awp_exit ?_
          try simp only [go_sem, List.map_cons, List.map_nil, ↓reduceIte, Nat.reduceEqDiff, Nat.reduceLT, Nat.reduceSub, Nat.reduceAdd, Nat.reduceMul, implies_true, true_and, and_true, cond_true, cond_false]
          refine hK4 _ _ _ ?_
          first | clear hK4 K4 | skip
          refine awp_reg1 zs [1, 2, 3, 4, 5, 6, 7, 8, 18] fun K hK => ?_  -- region 6
          try simp only [go_sem, List.map_cons, List.map_nil, ↓reduceIte, Nat.reduceEqDiff, Nat.reduceLT, Nat.reduceSub, Nat.reduceAdd, Nat.reduceMul, implies_true, true_and, and_true, cond_true, cond_false]
          iterate 14 (first | (refine And.intro ?_ ?_; · first | omega | assumption | (simp; done) | (intros; simp_all; done) | decide) | skip)
          refine hK _ _ _ ?_
          clear hK K
          try simp only [go_sem, List.map_cons, List.map_nil, ↓reduceIte, Nat.reduceEqDiff, Nat.reduceLT, Nat.reduceSub, Nat.reduceAdd, Nat.reduceMul, implies_true, true_and, and_true, cond_true, cond_false]
          refine ⟨⟨i + 1, by omega, by rw [w1 (by omega)], by rw [← hd, hy]; rfl⟩, by rw [w1 (by omega)]; simp; omega⟩
    · skip
      have hge : i = b.length := by simp at hb; omega
      have hq : munseenB s clock more t vn low a b = bif (squashE s clock true low a).2 == 0 then agreeB s (IntKind.i64.wrap (clock + more)) t vn (a ++ b) ((squashE s clock true low a).1 ++ b) else false := by unfold munseenB; rw [he, cond_false, ← hd, hge]; simp
      refine awp_exit ?_
      try simp only [go_sem, List.map_cons, List.map_nil, ↓reduceIte, Nat.reduceEqDiff, Nat.reduceLT, Nat.reduceSub, Nat.reduceAdd, Nat.reduceMul, implies_true, true_and, and_true, cond_true, cond_false]
      refine hK2 _ _ _ ?_
      first | clear hK2 K2 | skip
      refine awp_reg zs [1, 2, 3, 4, 6, 7, 8, 20, 21] fun K hK => ?_  -- region 14
      try simp only [go_sem, List.map_cons, List.map_nil, ↓reduceIte, Nat.reduceEqDiff, Nat.reduceLT, Nat.reduceSub, Nat.reduceAdd, Nat.reduceMul, implies_true, true_and, and_true, cond_true, cond_false]
      iterate 14 (first | (refine And.intro ?_ ?_; · first | omega | assumption | (simp; done) | (intros; simp_all; done) | decide) | skip)
      refine callK_use Try.func15 rfl rfl rfl ((c_retain_Squash s clock low true a (by omega) _ _)) ?_
      try simp only [go_sem, List.map_cons, List.map_nil, ↓reduceIte, Nat.reduceEqDiff, Nat.reduceLT, Nat.reduceSub, Nat.reduceAdd, Nat.reduceMul, implies_true, true_and, and_true, cond_true, cond_false]
      iterate 14 (first | (refine And.intro ?_ ?_; · first | omega | assumption | (simp; done) | (intros; simp_all; done) | decide) | skip)
      refine hK _ _ _ ?_
      clear hK K
      refine awp_drw rfl zs [16] [.m, .c, .q, .m, .q, .m, .m, .q, .m, .m, .m, .m, .c, .m, .m, .c, .c, .q, .q] (by kernel_rfl) (fun _ _ _ _ _ h => h) fun K hK => ?_  -- region 15
      try simp only [go_sem, List.map_cons, List.map_nil, ↓reduceIte, Nat.reduceEqDiff, Nat.reduceLT, Nat.reduceSub, Nat.reduceAdd, Nat.reduceMul, implies_true, true_and, and_true, cond_true, cond_false]
      iterate 14 (first | (refine And.intro ?_ ?_; · first | omega | assumption | (simp; done) | (intros; simp_all; done) | decide) | skip)
      refine callQG_use Try.func16 rfl rfl rfl (fun _ n => (by apply c_law_num <;> first | assumption | omega)) ?_
      try simp only [go_sem, List.map_cons, List.map_nil, ↓reduceIte, Nat.reduceEqDiff, Nat.reduceLT, Nat.reduceSub, Nat.reduceAdd, Nat.reduceMul, implies_true, true_and, and_true, cond_true, cond_false]
      iterate 14 (first | (refine And.intro ?_ ?_; · first | omega | assumption | (simp; done) | (intros; simp_all; done) | decide) | skip)
      refine callQG_use Try.func14 rfl rfl rfl (fun _ n => (c_law_join a b (by omega) (by omega) hfa hfb _ _)) ?_
      try simp only [go_sem, List.map_cons, List.map_nil, ↓reduceIte, Nat.reduceEqDiff, Nat.reduceLT, Nat.reduceSub, Nat.reduceAdd, Nat.reduceMul, implies_true, true_and, and_true, cond_true, cond_false]
      iterate 14 (first | (refine And.intro ?_ ?_; · first | omega | assumption | (simp; done) | (intros; simp_all; done) | decide) | skip)
      refine callQG_use Try.func14 rfl rfl rfl (fun _ n => (c_law_join (squashE s clock true low a).1 b (by omega) (by omega) (squashE_fits s clock low true a) hfb _ _)) ?_
      try simp only [go_sem, List.map_cons, List.map_nil, ↓reduceIte, Nat.reduceEqDiff, Nat.reduceLT, Nat.reduceSub, Nat.reduceAdd, Nat.reduceMul, implies_true, true_and, and_true, cond_true, cond_false]
      iterate 14 (first | (refine And.intro ?_ ?_; · first | omega | assumption | (simp; done) | (intros; simp_all; done) | decide) | skip)
      refine callQG_use Try.func17 rfl rfl rfl (fun _ n => (c_law_agree s (IntKind.i64.wrap (clock + more)) t vn (a ++ b) ((squashE s clock true low a).1 ++ b) hab hlb hr hv _ _)) ?_
      try simp only [go_sem, List.map_cons, List.map_nil, ↓reduceIte, Nat.reduceEqDiff, Nat.reduceLT, Nat.reduceSub, Nat.reduceAdd, Nat.reduceMul, implies_true, true_and, and_true, cond_true, cond_false]
      iterate 14 (first | (refine And.intro ?_ ?_; · first | omega | assumption | (simp; done) | (intros; simp_all; done) | decide) | skip)
      refine hK _ _ _ ?_
      clear hK K
      refine awp_ret ?_
      try simp only [go_sem, List.map_cons, List.map_nil, ↓reduceIte, Nat.reduceEqDiff, Nat.reduceLT, Nat.reduceSub, Nat.reduceAdd, Nat.reduceMul, implies_true, true_and, and_true, cond_true, cond_false]
      refine ⟨_, rfl, ?_, Frz.eq ?_ trivial⟩
      · intro k hk; have h0 : k ≠ n := by omega
        simp [Heap.put, h0]
      · rw [hq]


end Go.Proofs.Ytijhkfhflpmajaa
namespace Go.Proofs.Ytijhkfhflpmajaa
open Go Go.Sx Go.Rt Go.Proofs

def sibX (e x : Ent) : Bool := bif (bif (bif (bif decide (x.kind ≤ 2) then decide (e.kind ≤ 2) else false) then x.fam == e.fam else false) then x.row == e.row else false) then x.qual == e.qual else false
def sibs (m : List Ent) (e : Ent) : Nat := (m.filter (sibX e)).length
def okX (low : Int) (v : List Ent) (e : Ent) : Bool := if e.kind = 1 then shownB v e else if e.kind = 2 then decide (e.value.length = 0) else if e.kind = 3 then false else decide (low < e.ts)
def famX (s : List Fml) (e : Ent) : Bool := bif decide (e.fam < 0) then true else decide ((s.length : Int) ≤ e.fam)
def badX (s : List Fml) (low : Int) (m v : List Ent) (e : Ent) : Bool :=
  famX s e || (bif !okX low v e then true else bif decide (e.kind ≤ 2) then decide ((famAt s e.fam).max < (sibs m e : Int)) else false)
def putsOf (m : List Ent) : Nat := (m.filter fun e => e.kind == 1).length
def collectsB (s : List Fml) (clock low : Int) (l : List Ent) : Bool :=
  bif (squashE s clock true low l).2 != 0 then decide ((squashE s clock true low l).1.length = 0)
  else bif (visE s clock l).2 != 0 then false
  else bif (squashE s clock true low l).1.any (badX s low (squashE s clock true low l).1 (visE s clock l).1) then false
  else decide (putsOf (squashE s clock true low l).1 = (visE s clock l).1.length)

theorem filt_cons {f : Ent → Bool} (x : Ent) (l : List Ent) : ((x :: l).filter f).length = (if f x = true then 1 else 0) + (l.filter f).length := by
  rw [List.filter_cons]; split <;> simp <;> omega

set_option maxRecDepth 100000 in
set_option maxHeartbeats 6400000 in
theorem c_law_RetainCollects (s : List Fml) (clock low : Int) (l : List Ent) (hl : l.length ≤ 10000000) (hv : (visE s clock l).1.length < 4611686018427387904) (H : Heap) (n : Nat) :
    Ret Try.prog 7 [schAV s, .int .i64 clock, .int .i64 low, entsAV l] H n (.bool (collectsB s clock low l)) H n := by
  have hsl := squashE_length s clock true low l
  refine Ret.fin ?_
  refine acalls_of_awp Try.func7 rfl Try.ntmps7 (congrArg Array.toList Try.results7) (by simp) ?_
  simp only [go_sem]
  refine awp_reg zs [1, 2, 3, 4] fun K hK => ?_  -- region 0
  try simp only [go_sem, List.map_cons, List.map_nil, ↓reduceIte, Nat.reduceEqDiff, Nat.reduceLT, Nat.reduceSub, Nat.reduceAdd, Nat.reduceMul, implies_true, true_and, and_true, cond_true, cond_false]
  iterate 14 (first | (refine And.intro ?_ ?_; · first | omega | assumption | (simp; done) | (intros; simp_all; done) | decide) | skip)
  refine hK _ _ _ ?_
  clear hK K
  refine awp_reg zs [1, 2, 3, 4, 9] fun K hK => ?_  -- region 1
  try simp only [go_sem, List.map_cons, List.map_nil, ↓reduceIte, Nat.reduceEqDiff, Nat.reduceLT, Nat.reduceSub, Nat.reduceAdd, Nat.reduceMul, implies_true, true_and, and_true, cond_true, cond_false]
  iterate 14 (first | (refine And.intro ?_ ?_; · first | omega | assumption | (simp; done) | (intros; simp_all; done) | decide) | skip)
  refine callK_use Try.func11 rfl rfl rfl ((c_law_started _ _)) ?_
  try simp only [go_sem, List.map_cons, List.map_nil, ↓reduceIte, Nat.reduceEqDiff, Nat.reduceLT, Nat.reduceSub, Nat.reduceAdd, Nat.reduceMul, implies_true, true_and, and_true, cond_true, cond_false]
  iterate 14 (first | (refine And.intro ?_ ?_; · first | omega | assumption | (simp; done) | (intros; simp_all; done) | decide) | skip)
  refine hK _ _ _ ?_
  clear hK K
  refine awp_reg zs [1, 2, 3, 4, 9, 10, 11] fun K hK => ?_  -- region 2
  try simp only [go_sem, List.map_cons, List.map_nil, ↓reduceIte, Nat.reduceEqDiff, Nat.reduceLT, Nat.reduceSub, Nat.reduceAdd, Nat.reduceMul, implies_true, true_and, and_true, cond_true, cond_false]
  iterate 14 (first | (refine And.intro ?_ ?_; · first | omega | assumption | (simp; done) | (intros; simp_all; done) | decide) | skip)
  refine callK_use Try.func15 rfl rfl rfl ((c_retain_Squash s clock low true l (by omega) _ _)) ?_
  try simp only [go_sem, List.map_cons, List.map_nil, ↓reduceIte, Nat.reduceEqDiff, Nat.reduceLT, Nat.reduceSub, Nat.reduceAdd, Nat.reduceMul, implies_true, true_and, and_true, cond_true, cond_false]
  iterate 14 (first | (refine And.intro ?_ ?_; · first | omega | assumption | (simp; done) | (intros; simp_all; done) | decide) | skip)
  refine hK _ _ _ ?_
  clear hK K
  refine awp_seq_k fun K1 hK1 => ?_
  refine awp_reg zs [1, 2, 3, 4, 9, 10, 33] fun K hK => ?_  -- region 3
  try simp only [go_sem, List.map_cons, List.map_nil, ↓reduceIte, Nat.reduceEqDiff, Nat.reduceLT, Nat.reduceSub, Nat.reduceAdd, Nat.reduceMul, implies_true, true_and, and_true, cond_true, cond_false]
  iterate 14 (first | (refine And.intro ?_ ?_; · first | omega | assumption | (simp; done) | (intros; simp_all; done) | decide) | skip)
  refine callG_use Try.func16 rfl rfl rfl (fun _ => (by apply c_law_num <;> first | assumption | omega)) ?_
  try simp only [go_sem, List.map_cons, List.map_nil, ↓reduceIte, Nat.reduceEqDiff, Nat.reduceLT, Nat.reduceSub, Nat.reduceAdd, Nat.reduceMul, implies_true, true_and, and_true, cond_true, cond_false]
  iterate 14 (first | (refine And.intro ?_ ?_; · first | omega | assumption | (simp; done) | (intros; simp_all; done) | decide) | skip)
  refine hK _ _ _ ?_
  clear hK K
  refine awp_cond (b := _) (by simp only [go_sem, List.map_cons, List.map_nil, ↓reduceIte, Nat.reduceEqDiff, Nat.reduceLT, Nat.reduceSub, Nat.reduceAdd, Nat.reduceMul, implies_true, true_and, and_true, cond_true, cond_false]; rfl) (fun hb => ?_) (fun hb => ?_)  -- t33
  · skip
    have h1 : ((squashE s clock true low l).2 != 0) = true := hb
    have hq : collectsB s clock low l = decide ((squashE s clock true low l).1.length = 0) := by unfold collectsB; rw [h1, cond_true]
    refine awp_reg zs [8] fun K hK => ?_  -- region 4
    try simp only [go_sem, List.map_cons, List.map_nil, ↓reduceIte, Nat.reduceEqDiff, Nat.reduceLT, Nat.reduceSub, Nat.reduceAdd, Nat.reduceMul, implies_true, true_and, and_true, cond_true, cond_false]
    iterate 14 (first | (refine And.intro ?_ ?_; · first | omega | assumption | (simp; done) | (intros; simp_all; done) | decide) | skip)
    refine hK _ _ _ ?_
    clear hK K
    refine awp_ret ?_
    try simp only [go_sem, List.map_cons, List.map_nil, ↓reduceIte, Nat.reduceEqDiff, Nat.reduceLT, Nat.reduceSub, Nat.reduceAdd, Nat.reduceMul, implies_true, true_and, and_true, cond_true, cond_false]
    refine ⟨_, rfl, ?_, Frz.eq ?_ trivial⟩
    · intro k hk; have h0 : k ≠ n := by omega
      simp [Heap.put, h0]
    · rw [hq]; first | done | (congr 1; rw [Bool.eq_iff_iff]; simp; done) | (congr 1; rw [Bool.eq_iff_iff]; simp; omega)
  · skip
    have h1 : ((squashE s clock true low l).2 != 0) = false := hb
    refine awp_skip ?_
    try simp only [go_sem, List.map_cons, List.map_nil, ↓reduceIte, Nat.reduceEqDiff, Nat.reduceLT, Nat.reduceSub, Nat.reduceAdd, Nat.reduceMul, implies_true, true_and, and_true, cond_true, cond_false]
    refine hK1 _ _ _ ?_
    first | clear hK1 K1 | skip
    refine awp_reg zs [2, 4, 10, 12, 13] fun K hK => ?_  -- region 5
    try simp only [go_sem, List.map_cons, List.map_nil, ↓reduceIte, Nat.reduceEqDiff, Nat.reduceLT, Nat.reduceSub, Nat.reduceAdd, Nat.reduceMul, implies_true, true_and, and_true, cond_true, cond_false]
    iterate 14 (first | (refine And.intro ?_ ?_; · first | omega | assumption | (simp; done) | (intros; simp_all; done) | decide) | skip)
    refine callK_use Try.func19 rfl rfl rfl ((c_retain_Vis s clock l (by omega) _ _)) ?_
    try simp only [go_sem, List.map_cons, List.map_nil, ↓reduceIte, Nat.reduceEqDiff, Nat.reduceLT, Nat.reduceSub, Nat.reduceAdd, Nat.reduceMul, implies_true, true_and, and_true, cond_true, cond_false]
    iterate 14 (first | (refine And.intro ?_ ?_; · first | omega | assumption | (simp; done) | (intros; simp_all; done) | decide) | skip)
    refine hK _ _ _ ?_
    clear hK K
    refine awp_seq_k fun K2 hK2 => ?_
    refine awp_reg zs [2, 4, 10, 12, 49] fun K hK => ?_  -- region 6
    try simp only [go_sem, List.map_cons, List.map_nil, ↓reduceIte, Nat.reduceEqDiff, Nat.reduceLT, Nat.reduceSub, Nat.reduceAdd, Nat.reduceMul, implies_true, true_and, and_true, cond_true, cond_false]
    iterate 14 (first | (refine And.intro ?_ ?_; · first | omega | assumption | (simp; done) | (intros; simp_all; done) | decide) | skip)
    refine callK_use Try.func16 rfl rfl rfl ((by apply c_law_num <;> first | assumption | omega)) ?_
    try simp only [go_sem, List.map_cons, List.map_nil, ↓reduceIte, Nat.reduceEqDiff, Nat.reduceLT, Nat.reduceSub, Nat.reduceAdd, Nat.reduceMul, implies_true, true_and, and_true, cond_true, cond_false]
    iterate 14 (first | (refine And.intro ?_ ?_; · first | omega | assumption | (simp; done) | (intros; simp_all; done) | decide) | skip)
    refine hK _ _ _ ?_
    clear hK K
    refine awp_cond (b := _) (by simp only [go_sem, List.map_cons, List.map_nil, ↓reduceIte, Nat.reduceEqDiff, Nat.reduceLT, Nat.reduceSub, Nat.reduceAdd, Nat.reduceMul, implies_true, true_and, and_true, cond_true, cond_false]; rfl) (fun hb => ?_) (fun hb => ?_)  -- t49
    · skip
      have h2 : ((visE s clock l).2 != 0) = true := hb
      have hq : collectsB s clock low l = false := by unfold collectsB; rw [h1, h2, cond_true, cond_false]
      refine awp_reg zs [8] fun K hK => ?_  -- region 7
      try simp only [go_sem, List.map_cons, List.map_nil, ↓reduceIte, Nat.reduceEqDiff, Nat.reduceLT, Nat.reduceSub, Nat.reduceAdd, Nat.reduceMul, implies_true, true_and, and_true, cond_true, cond_false]
      iterate 14 (first | (refine And.intro ?_ ?_; · first | omega | assumption | (simp; done) | (intros; simp_all; done) | decide) | skip)
      refine hK _ _ _ ?_
      clear hK K
      refine awp_ret ?_
      try simp only [go_sem, List.map_cons, List.map_nil, ↓reduceIte, Nat.reduceEqDiff, Nat.reduceLT, Nat.reduceSub, Nat.reduceAdd, Nat.reduceMul, implies_true, true_and, and_true, cond_true, cond_false]
      refine ⟨_, rfl, ?_, Frz.eq ?_ trivial⟩
      · intro k hk; have h0 : k ≠ n := by omega
        simp [Heap.put, h0]
      · rw [hq]; first | done | (congr 1; rw [Bool.eq_iff_iff]; simp; done) | (congr 1; rw [Bool.eq_iff_iff]; simp; omega)
    · skip
      have h2 : ((visE s clock l).2 != 0) = false := hb
      have hq0 : collectsB s clock low l = bif (squashE s clock true low l).1.any (badX s low (squashE s clock true low l).1 (visE s clock l).1) then false else decide (putsOf (squashE s clock true low l).1 = (visE s clock l).1.length) := by unfold collectsB; rw [h1, h2, cond_false, cond_false]
      have hml : (squashE s clock true low l).1.length ≤ 100000000 := by omega
      generalize (squashE s clock true low l).1 = m at *
      generalize (visE s clock l).1 = v at *
      refine awp_skip ?_
      try simp only [go_sem, List.map_cons, List.map_nil, ↓reduceIte, Nat.reduceEqDiff, Nat.reduceLT, Nat.reduceSub, Nat.reduceAdd, Nat.reduceMul, implies_true, true_and, and_true, cond_true, cond_false]
      refine hK2 _ _ _ ?_
      first | clear hK2 K2 | skip
      refine awp_reg zs [2, 4, 10, 12, 14] fun K hK => ?_  -- region 8
      try simp only [go_sem, List.map_cons, List.map_nil, ↓reduceIte, Nat.reduceEqDiff, Nat.reduceLT, Nat.reduceSub, Nat.reduceAdd, Nat.reduceMul, implies_true, true_and, and_true, cond_true, cond_false]
      iterate 14 (first | (refine And.intro ?_ ?_; · first | omega | assumption | (simp; done) | (intros; simp_all; done) | decide) | skip)
      refine hK _ _ _ ?_
      clear hK K
      refine awp_seq_k fun K3 hK3 => ?_
      refine awp_reg zs [2, 4, 10, 12, 14, 15] fun K hK => ?_  -- region 9
      try simp only [go_sem, List.map_cons, List.map_nil, ↓reduceIte, Nat.reduceEqDiff, Nat.reduceLT, Nat.reduceSub, Nat.reduceAdd, Nat.reduceMul, implies_true, true_and, and_true, cond_true, cond_false]
      iterate 14 (first | (refine And.intro ?_ ?_; · first | omega | assumption | (simp; done) | (intros; simp_all; done) | decide) | skip)
      refine hK _ _ _ ?_
      clear hK K
      refine awp_block ?_
      -- loop 0: head [2, 4, 10, 12, 14, 15]
      refine awp_loop (fun T' H' n' => ∃ (i p : Nat), i ≤ m.length ∧ p ≤ i ∧ T' = tl [(2, .int .i64 low), (4, .loc n 0 0 0 []), (10, .sl 7 (m.map entAV)), (12, .sl 7 (v.map entAV)), (14, .int .i64 p), (15, .int .i64 i)] ∧ H' = H.put n (some (.arr 0 1 [schAV s])) ∧ n' = n + 1 ∧ (m.drop i).any (badX s low m v) = m.any (badX s low m v) ∧ p + putsOf (m.drop i) = putsOf m) (fun T' _ _ => m.length - iv (T' 15)) ?_ ?_
      · skip
        exact ⟨0, 0, Nat.zero_le _, Nat.zero_le _, rfl, rfl, rfl, rfl, by simp⟩
      intro T1 H1 n1
      rintro ⟨i, p, hi, hp, rfl, rfl, rfl, hd, hpu⟩
      refine awp_seq_k fun K4 hK4 => ?_
      refine awp_reg zs [2, 4, 10, 12, 14, 15, 53] fun K hK => ?_  -- region 10
      try simp only [go_sem, List.map_cons, List.map_nil, ↓reduceIte, Nat.reduceEqDiff, Nat.reduceLT, Nat.reduceSub, Nat.reduceAdd, Nat.reduceMul, implies_true, true_and, and_true, cond_true, cond_false]
      iterate 14 (first | (refine And.intro ?_ ?_; · first | omega | assumption | (simp; done) | (intros; simp_all; done) | decide) | skip)
      refine hK _ _ _ ?_
      clear hK K
      refine awp_cond (b := _) (by simp only [go_sem, List.map_cons, List.map_nil, ↓reduceIte, Nat.reduceEqDiff, Nat.reduceLT, Nat.reduceSub, Nat.reduceAdd, Nat.reduceMul, implies_true, true_and, and_true, cond_true, cond_false]; rfl) (fun hb => ?_) (fun hb => ?_)  -- t53
      · skip
        have hlt : i < m.length := by simpa using hb
        have hn1 : nth (m.map entAV) i = entAV (m.getD i default) := nth_map entAV m i hlt
        rw [drop_cons m i hlt, List.any_cons] at hd
        rw [drop_cons m i hlt, putsOf, filt_cons] at hpu
        generalize m.getD i default = e at *
        refine awp_skip ?_
        try simp only [go_sem, List.map_cons, List.map_nil, ↓reduceIte, Nat.reduceEqDiff, Nat.reduceLT, Nat.reduceSub, Nat.reduceAdd, Nat.reduceMul, implies_true, true_and, and_true, cond_true, cond_false]
        refine hK4 _ _ _ ?_
        first | clear hK4 K4 | skip
        refine awp_seq_k fun K5 hK5 => ?_
        refine awp_block ?_
        refine awp_reg zs [2, 4, 10, 12, 14, 15, 16] fun K hK => ?_  -- region 12
        try simp only [go_sem, List.map_cons, List.map_nil, ↓reduceIte, Nat.reduceEqDiff, Nat.reduceLT, Nat.reduceSub, Nat.reduceAdd, Nat.reduceMul, implies_true, true_and, and_true, cond_true, cond_false]
        iterate 14 (first | (refine And.intro ?_ ?_; · first | omega | assumption | (simp; done) | (intros; simp_all; done) | decide) | skip)
        refine hK _ _ _ ?_
        clear hK K
        refine awp_seq_k fun K6 hK6 => ?_
        refine awp_drw rfl zs [2, 4, 10, 12, 14, 15, 16, 72] [.m, .m, .q, .q, .q, .q, .m, .m, .m, .q, .q, .q, .q, .q, .q, .q, .q] (by kernel_rfl) (fun _ _ _ _ _ h => h) fun K hK => ?_  -- region 13
        try simp only [go_sem, List.map_cons, List.map_nil, ↓reduceIte, Nat.reduceEqDiff, Nat.reduceLT, Nat.reduceSub, Nat.reduceAdd, Nat.reduceMul, implies_true, true_and, and_true, cond_true, cond_false, Int.toNat_natCast, hn1]
        iterate 14 (first | (refine And.intro ?_ ?_; · first | omega | assumption | (simp; done) | (intros; simp_all; done) | decide) | skip)
        refine hK _ _ _ ?_
        clear hK K
        refine awp_cond (b := _) (by simp only [go_sem, List.map_cons, List.map_nil, ↓reduceIte, Nat.reduceEqDiff, Nat.reduceLT, Nat.reduceSub, Nat.reduceAdd, Nat.reduceMul, implies_true, true_and, and_true, cond_true, cond_false]; rfl) (fun hb => ?_) (fun hb => ?_)  -- t72
        · skip
          have hf : famX s e = true := by unfold famX; rw [List.length_map] at hb; exact hb
          have hq : collectsB s clock low l = false := by rw [hq0, ← hd]; unfold badX; rw [hf]; rfl
          refine awp_reg zs [8] fun K hK => ?_  -- region 14
          try simp only [go_sem, List.map_cons, List.map_nil, ↓reduceIte, Nat.reduceEqDiff, Nat.reduceLT, Nat.reduceSub, Nat.reduceAdd, Nat.reduceMul, implies_true, true_and, and_true, cond_true, cond_false]
          iterate 14 (first | (refine And.intro ?_ ?_; · first | omega | assumption | (simp; done) | (intros; simp_all; done) | decide) | skip)
          refine hK _ _ _ ?_
          clear hK K
          refine awp_ret ?_
          try simp only [go_sem, List.map_cons, List.map_nil, ↓reduceIte, Nat.reduceEqDiff, Nat.reduceLT, Nat.reduceSub, Nat.reduceAdd, Nat.reduceMul, implies_true, true_and, and_true, cond_true, cond_false]
          refine ⟨_, rfl, ?_, Frz.eq ?_ trivial⟩
          · intro k hk; have h0 : k ≠ n := by omega
            simp [Heap.put, h0]
          · rw [hq]; first | done | (congr 1; rw [Bool.eq_iff_iff]; simp; done) | (congr 1; rw [Bool.eq_iff_iff]; simp; omega)
        · skip
          have hf : famX s e = false := by unfold famX; rw [List.length_map] at hb; exact hb
          have hf0 : 0 ≤ e.fam ∧ e.fam < s.length := by unfold famX at hf; by_cases h9 : e.fam < 0 <;> simp [h9] at hf <;> omega
          refine awp_skip ?_
          try simp only [go_sem, List.map_cons, List.map_nil, ↓reduceIte, Nat.reduceEqDiff, Nat.reduceLT, Nat.reduceSub, Nat.reduceAdd, Nat.reduceMul, implies_true, true_and, and_true, cond_true, cond_false]
          refine hK6 _ _ _ ?_
          first | clear hK6 K6 | skip
          refine awp_seq_k fun K7 hK7 => ?_
          refine awp_reg zs [2, 4, 10, 12, 14, 15, 16, 17] fun K hK => ?_  -- region 15
          try simp only [go_sem, List.map_cons, List.map_nil, ↓reduceIte, Nat.reduceEqDiff, Nat.reduceLT, Nat.reduceSub, Nat.reduceAdd, Nat.reduceMul, implies_true, true_and, and_true, cond_true, cond_false]
          iterate 14 (first | (refine And.intro ?_ ?_; · first | omega | assumption | (simp; done) | (intros; simp_all; done) | decide) | skip)
          refine hK _ _ _ ?_
          clear hK K
          refine awp_block ?_
          -- loop 1: head [2, 4, 10, 12, 14, 15, 16, 17]
          refine awp_loop (fun T' H' n' => ∃ (j c : Nat), j ≤ m.length ∧ c ≤ j ∧ T' = tl [(2, .int .i64 low), (4, .loc n 0 0 0 []), (10, .sl 7 (m.map entAV)), (12, .sl 7 (v.map entAV)), (14, .int .i64 p), (15, .int .i64 i), (16, .int .i64 c), (17, .int .i64 j)] ∧ H' = H.put n (some (.arr 0 1 [schAV s])) ∧ n' = n + 1 ∧ c + ((m.drop j).filter (sibX e)).length = sibs m e) (fun T' _ _ => m.length - iv (T' 17)) ?_ ?_
          · skip
            exact ⟨0, 0, Nat.zero_le _, Nat.zero_le _, rfl, rfl, rfl, by simp [sibs]⟩
          intro T1 H1 n1
          rintro ⟨j, c, hj, hcj, rfl, rfl, rfl, hs⟩
          refine awp_seq_k fun K8 hK8 => ?_
          refine awp_reg zs [2, 4, 10, 12, 14, 15, 16, 17, 76] fun K hK => ?_  -- region 16
          try simp only [go_sem, List.map_cons, List.map_nil, ↓reduceIte, Nat.reduceEqDiff, Nat.reduceLT, Nat.reduceSub, Nat.reduceAdd, Nat.reduceMul, implies_true, true_and, and_true, cond_true, cond_false]
          iterate 14 (first | (refine And.intro ?_ ?_; · first | omega | assumption | (simp; done) | (intros; simp_all; done) | decide) | skip)
          refine hK _ _ _ ?_
          clear hK K
          refine awp_cond (b := _) (by simp only [go_sem, List.map_cons, List.map_nil, ↓reduceIte, Nat.reduceEqDiff, Nat.reduceLT, Nat.reduceSub, Nat.reduceAdd, Nat.reduceMul, implies_true, true_and, and_true, cond_true, cond_false]; rfl) (fun hb => ?_) (fun hb => ?_)  -- t76
          · skip
            have hlt2 : j < m.length := by simpa using hb
            have hn2 : nth (m.map entAV) j = entAV (m.getD j default) := nth_map entAV m j hlt2
            rw [drop_cons m j hlt2, filt_cons] at hs
            generalize m.getD j default = x at *
            refine awp_skip ?_
            try simp only [go_sem, List.map_cons, List.map_nil, ↓reduceIte, Nat.reduceEqDiff, Nat.reduceLT, Nat.reduceSub, Nat.reduceAdd, Nat.reduceMul, implies_true, true_and, and_true, cond_true, cond_false]
            refine hK8 _ _ _ ?_
            first | clear hK8 K8 | skip
            refine awp_seq_k fun K9 hK9 => ?_
            refine awp_block ?_
            refine awp_drw rfl zs [2, 4, 10, 12, 14, 15, 16, 17, 131] [.m, .m, .q, .q, .q, .q, .m, .m, .m, .q, .q, .q, .q, .q, .m, .m, .m, .q, .q, .q, .m, .m, .q, .q, .q, .q, .q, .m, .m, .m, .q, .q, .q, .m, .m, .q, .q, .q, .c, .q, .m, .m, .m, .q, .q, .q, .m, .m, .q, .q, .q, .c, .q] (by kernel_rfl) (fun _ _ _ _ _ h => h) fun K hK => ?_  -- region 18
            try simp only [go_sem, List.map_cons, List.map_nil, ↓reduceIte, Nat.reduceEqDiff, Nat.reduceLT, Nat.reduceSub, Nat.reduceAdd, Nat.reduceMul, implies_true, true_and, and_true, cond_true, cond_false, Int.toNat_natCast, hn1, hn2]
            iterate 14 (first | (refine And.intro ?_ ?_; · first | omega | assumption | (simp; done) | (intros; simp_all; done) | decide) | skip)
            refine callQG_use Try.func20 rfl rfl rfl (fun _ n => (c_ref3_Alike x.row e.row _ _)) ?_
            try simp only [go_sem, List.map_cons, List.map_nil, ↓reduceIte, Nat.reduceEqDiff, Nat.reduceLT, Nat.reduceSub, Nat.reduceAdd, Nat.reduceMul, implies_true, true_and, and_true, cond_true, cond_false, Int.toNat_natCast, hn1, hn2]
            iterate 14 (first | (refine And.intro ?_ ?_; · first | omega | assumption | (simp; done) | (intros; simp_all; done) | decide) | skip)
            refine callQG_use Try.func20 rfl rfl rfl (fun _ n => (c_ref3_Alike x.qual e.qual _ _)) ?_
            try simp only [go_sem, List.map_cons, List.map_nil, ↓reduceIte, Nat.reduceEqDiff, Nat.reduceLT, Nat.reduceSub, Nat.reduceAdd, Nat.reduceMul, implies_true, true_and, and_true, cond_true, cond_false, Int.toNat_natCast, hn1, hn2]
            iterate 14 (first | (refine And.intro ?_ ?_; · first | omega | assumption | (simp; done) | (intros; simp_all; done) | decide) | skip)
            refine hK _ _ _ ?_
            clear hK K
            refine awp_cond (b := _) (by simp only [go_sem, List.map_cons, List.map_nil, ↓reduceIte, Nat.reduceEqDiff, Nat.reduceLT, Nat.reduceSub, Nat.reduceAdd, Nat.reduceMul, implies_true, true_and, and_true, cond_true, cond_false]; rfl) (fun hb => ?_) (fun hb => ?_)  -- t131
            · skip
              have hx : sibX e x = true := hb
              rw [if_pos hx] at hs
              have hw1 : IntKind.i64.wrap ((c : Int) + 1) = ((c + 1 : Nat) : Int) := Rt.w1 (by omega)
              refine awp_reg1 zs [2, 4, 10, 12, 14, 15, 16, 17] fun K hK => ?_  -- region 19
              try simp only [go_sem, List.map_cons, List.map_nil, ↓reduceIte, Nat.reduceEqDiff, Nat.reduceLT, Nat.reduceSub, Nat.reduceAdd, Nat.reduceMul, implies_true, true_and, and_true, cond_true, cond_false, hw1]
              iterate 14 (first | (refine And.intro ?_ ?_; · first | omega | assumption | (simp; done) | (intros; simp_all; done) | decide) | skip)
              refine hK _ _ _ ?_
              clear hK K
              try simp only [go_sem, List.map_cons, List.map_nil, ↓reduceIte, Nat.reduceEqDiff, Nat.reduceLT, Nat.reduceSub, Nat.reduceAdd, Nat.reduceMul, implies_true, true_and, and_true, cond_true, cond_false]
              refine hK9 _ _ _ ?_
              first | clear hK9 K9 | skip
              refine awp_reg1 zs [2, 4, 10, 12, 14, 15, 16, 17] fun K hK => ?_  -- region 17
              try simp only [go_sem, List.map_cons, List.map_nil, ↓reduceIte, Nat.reduceEqDiff, Nat.reduceLT, Nat.reduceSub, Nat.reduceAdd, Nat.reduceMul, implies_true, true_and, and_true, cond_true, cond_false]
              iterate 14 (first | (refine And.intro ?_ ?_; · first | omega | assumption | (simp; done) | (intros; simp_all; done) | decide) | skip)
              refine hK _ _ _ ?_
              clear hK K
              try simp only [go_sem, List.map_cons, List.map_nil, ↓reduceIte, Nat.reduceEqDiff, Nat.reduceLT, Nat.reduceSub, Nat.reduceAdd, Nat.reduceMul, implies_true, true_and, and_true, cond_true, cond_false]
              first
              | exact ⟨⟨j + 1, c + 1, by omega, by omega, by rw [Rt.w1 (by omega)], by omega⟩, by rw [Rt.w1 (by omega)]; simp; omega⟩
              | exact ⟨⟨j + 1, c, by omega, by omega, by rw [Rt.w1 (by omega)], by omega⟩, by rw [Rt.w1 (by omega)]; simp; omega⟩
            · skip
              have hx : sibX e x = false := hb
              rw [if_neg (by rw [hx]; decide)] at hs
              refine awp_skip ?_
              try simp only [go_sem, List.map_cons, List.map_nil, ↓reduceIte, Nat.reduceEqDiff, Nat.reduceLT, Nat.reduceSub, Nat.reduceAdd, Nat.reduceMul, implies_true, true_and, and_true, cond_true, cond_false]
              refine hK9 _ _ _ ?_
              first | clear hK9 K9 | skip
              refine awp_reg1 zs [2, 4, 10, 12, 14, 15, 16, 17] fun K hK => ?_  -- region 17
              try simp only [go_sem, List.map_cons, List.map_nil, ↓reduceIte, Nat.reduceEqDiff, Nat.reduceLT, Nat.reduceSub, Nat.reduceAdd, Nat.reduceMul, implies_true, true_and, and_true, cond_true, cond_false]
              iterate 14 (first | (refine And.intro ?_ ?_; · first | omega | assumption | (simp; done) | (intros; simp_all; done) | decide) | skip)
              refine hK _ _ _ ?_
              clear hK K
              try simp only [go_sem, List.map_cons, List.map_nil, ↓reduceIte, Nat.reduceEqDiff, Nat.reduceLT, Nat.reduceSub, Nat.reduceAdd, Nat.reduceMul, implies_true, true_and, and_true, cond_true, cond_false]
              first
              | exact ⟨⟨j + 1, c + 1, by omega, by omega, by rw [Rt.w1 (by omega)], by omega⟩, by rw [Rt.w1 (by omega)]; simp; omega⟩
              | exact ⟨⟨j + 1, c, by omega, by omega, by rw [Rt.w1 (by omega)], by omega⟩, by rw [Rt.w1 (by omega)]; simp; omega⟩
          · skip
            have hge2 : j = m.length := by simp at hb; omega
            rw [hge2, List.drop_length] at hs
            have hcs : c = sibs m e := by simpa using hs
            refine awp_exit ?_
            try simp only [go_sem, List.map_cons, List.map_nil, ↓reduceIte, Nat.reduceEqDiff, Nat.reduceLT, Nat.reduceSub, Nat.reduceAdd, Nat.reduceMul, implies_true, true_and, and_true, cond_true, cond_false]
            refine hK7 _ _ _ ?_
            first | clear hK7 K7 | skip
            refine awp_seq_j (fun T' H' n' => T' 2 = .int .i64 low ∧ T' 4 = .loc n 0 0 0 [] ∧ T' 9 = .bool (okX low v e) ∧ T' 10 = .sl 7 (m.map entAV) ∧ T' 12 = .sl 7 (v.map entAV) ∧ T' 14 = .int .i64 (p + (if e.kind = 1 then 1 else 0) : Nat) ∧ T' 15 = .int .i64 i ∧ T' 16 = .int .i64 c ∧ H' = H.put n (some (.arr 0 1 [schAV s])) ∧ n' = n + 1) ?_ ?_
            · skip
              refine awp_reg zs [2, 4, 10, 12, 14, 15, 16, 138] fun K hK => ?_  -- region 20
              try simp only [go_sem, List.map_cons, List.map_nil, ↓reduceIte, Nat.reduceEqDiff, Nat.reduceLT, Nat.reduceSub, Nat.reduceAdd, Nat.reduceMul, implies_true, true_and, and_true, cond_true, cond_false, Int.toNat_natCast, hn1]
              iterate 14 (first | (refine And.intro ?_ ?_; · first | omega | assumption | (simp; done) | (intros; simp_all; done) | decide) | skip)
              refine hK _ _ _ ?_
              clear hK K
              refine awp_block ?_
              refine awp_reg zs [2, 4, 10, 12, 14, 15, 16, 138, 146] fun K hK => ?_  -- region 22
              try simp only [go_sem, List.map_cons, List.map_nil, ↓reduceIte, Nat.reduceEqDiff, Nat.reduceLT, Nat.reduceSub, Nat.reduceAdd, Nat.reduceMul, implies_true, true_and, and_true, cond_true, cond_false]
              iterate 14 (first | (refine And.intro ?_ ?_; · first | omega | assumption | (simp; done) | (intros; simp_all; done) | decide) | skip)
              refine hK _ _ _ ?_
              clear hK K
              refine awp_cond (b := _) (by simp only [go_sem, List.map_cons, List.map_nil, ↓reduceIte, Nat.reduceEqDiff, Nat.reduceLT, Nat.reduceSub, Nat.reduceAdd, Nat.reduceMul, implies_true, true_and, and_true, cond_true, cond_false]; rfl) (fun hb => ?_) (fun hb => ?_)  -- t146
              · skip
                have k1 : e.kind = 1 := by simpa using hb
                have hwp : IntKind.i64.wrap ((p : Int) + 1) = ((p + 1 : Nat) : Int) := Rt.w1 (by omega)
                refine awp_reg zs [2, 4, 10, 12, 14, 15, 16] fun K hK => ?_  -- region 23
                try simp only [go_sem, List.map_cons, List.map_nil, ↓reduceIte, Nat.reduceEqDiff, Nat.reduceLT, Nat.reduceSub, Nat.reduceAdd, Nat.reduceMul, implies_true, true_and, and_true, cond_true, cond_false, hwp]
                iterate 14 (first | (refine And.intro ?_ ?_; · first | omega | assumption | (simp; done) | (intros; simp_all; done) | decide) | skip)
                refine hK _ _ _ ?_
                clear hK K
                refine awp_reg1 zs [2, 4, 9, 10, 12, 14, 15, 16] fun K hK => ?_  -- region 24
                try simp only [go_sem, List.map_cons, List.map_nil, ↓reduceIte, Nat.reduceEqDiff, Nat.reduceLT, Nat.reduceSub, Nat.reduceAdd, Nat.reduceMul, implies_true, true_and, and_true, cond_true, cond_false, Int.toNat_natCast, hn1]
                iterate 14 (first | (refine And.intro ?_ ?_; · first | omega | assumption | (simp; done) | (intros; simp_all; done) | decide) | skip)
                refine callK_use Try.func21 rfl rfl rfl ((c_law_shown v e hv _ _)) ?_
                try simp only [go_sem, List.map_cons, List.map_nil, ↓reduceIte, Nat.reduceEqDiff, Nat.reduceLT, Nat.reduceSub, Nat.reduceAdd, Nat.reduceMul, implies_true, true_and, and_true, cond_true, cond_false, Int.toNat_natCast, hn1]
                iterate 14 (first | (refine And.intro ?_ ?_; · first | omega | assumption | (simp; done) | (intros; simp_all; done) | decide) | skip)
                refine hK _ _ _ ?_
                clear hK K
                try simp only [go_sem, List.map_cons, List.map_nil, ↓reduceIte, Nat.reduceEqDiff, Nat.reduceLT, Nat.reduceSub, Nat.reduceAdd, Nat.reduceMul, implies_true, true_and, and_true, cond_true, cond_false]
                first
                | (simp [okX, k1, tl, schAV]; done)
                | (simp [okX, k1, k2, tl, schAV]; done)
                | (simp [okX, k1, k2, tl, schAV]; rw [Bool.eq_iff_iff]; simp; done)
                | (simp [okX, k1, k2, k3, tl, schAV]; done)
              · skip
                have k1 : e.kind ≠ 1 := by simpa using hb
                refine awp_reg zs [2, 4, 10, 12, 14, 15, 16, 138, 156] fun K hK => ?_  -- region 25
                try simp only [go_sem, List.map_cons, List.map_nil, ↓reduceIte, Nat.reduceEqDiff, Nat.reduceLT, Nat.reduceSub, Nat.reduceAdd, Nat.reduceMul, implies_true, true_and, and_true, cond_true, cond_false]
                iterate 14 (first | (refine And.intro ?_ ?_; · first | omega | assumption | (simp; done) | (intros; simp_all; done) | decide) | skip)
                refine hK _ _ _ ?_
                clear hK K
                refine awp_cond (b := _) (by simp only [go_sem, List.map_cons, List.map_nil, ↓reduceIte, Nat.reduceEqDiff, Nat.reduceLT, Nat.reduceSub, Nat.reduceAdd, Nat.reduceMul, implies_true, true_and, and_true, cond_true, cond_false]; rfl) (fun hb => ?_) (fun hb => ?_)  -- t156
                · skip
                  have k2 : e.kind = 2 := by simpa using hb
                  refine awp_reg1 zs [2, 4, 9, 10, 12, 14, 15, 16] fun K hK => ?_  -- region 26
                  try simp only [go_sem, List.map_cons, List.map_nil, ↓reduceIte, Nat.reduceEqDiff, Nat.reduceLT, Nat.reduceSub, Nat.reduceAdd, Nat.reduceMul, implies_true, true_and, and_true, cond_true, cond_false, Int.toNat_natCast, hn1]
                  iterate 14 (first | (refine And.intro ?_ ?_; · first | omega | assumption | (simp; done) | (intros; simp_all; done) | decide) | skip)
                  refine hK _ _ _ ?_
                  clear hK K
                  try simp only [go_sem, List.map_cons, List.map_nil, ↓reduceIte, Nat.reduceEqDiff, Nat.reduceLT, Nat.reduceSub, Nat.reduceAdd, Nat.reduceMul, implies_true, true_and, and_true, cond_true, cond_false]
                  first
                  | (simp [okX, k1, tl, schAV]; done)
                  | (simp [okX, k1, k2, tl, schAV]; done)
                  | (simp [okX, k1, k2, tl, schAV]; rw [Bool.eq_iff_iff]; simp; done)
                  | (simp [okX, k1, k2, k3, tl, schAV]; done)
                · skip
                  have k2 : e.kind ≠ 2 := by simpa using hb
                  refine awp_reg zs [2, 4, 10, 12, 14, 15, 16, 165] fun K hK => ?_  -- region 27
                  try simp only [go_sem, List.map_cons, List.map_nil, ↓reduceIte, Nat.reduceEqDiff, Nat.reduceLT, Nat.reduceSub, Nat.reduceAdd, Nat.reduceMul, implies_true, true_and, and_true, cond_true, cond_false]
                  iterate 14 (first | (refine And.intro ?_ ?_; · first | omega | assumption | (simp; done) | (intros; simp_all; done) | decide) | skip)
                  refine hK _ _ _ ?_
                  clear hK K
                  refine awp_cond (b := _) (by simp only [go_sem, List.map_cons, List.map_nil, ↓reduceIte, Nat.reduceEqDiff, Nat.reduceLT, Nat.reduceSub, Nat.reduceAdd, Nat.reduceMul, implies_true, true_and, and_true, cond_true, cond_false]; rfl) (fun hb => ?_) (fun hb => ?_)  -- t165
                  · skip
                    have k3 : e.kind = 3 := by simpa using hb
                    refine awp_reg1 zs [2, 4, 9, 10, 12, 14, 15, 16] fun K hK => ?_  -- region 28
                    try simp only [go_sem, List.map_cons, List.map_nil, ↓reduceIte, Nat.reduceEqDiff, Nat.reduceLT, Nat.reduceSub, Nat.reduceAdd, Nat.reduceMul, implies_true, true_and, and_true, cond_true, cond_false]
                    iterate 14 (first | (refine And.intro ?_ ?_; · first | omega | assumption | (simp; done) | (intros; simp_all; done) | decide) | skip)
                    refine hK _ _ _ ?_
                    clear hK K
                    try simp only [go_sem, List.map_cons, List.map_nil, ↓reduceIte, Nat.reduceEqDiff, Nat.reduceLT, Nat.reduceSub, Nat.reduceAdd, Nat.reduceMul, implies_true, true_and, and_true, cond_true, cond_false]
                    first
                    | (simp [okX, k1, tl, schAV]; done)
                    | (simp [okX, k1, k2, tl, schAV]; done)
                    | (simp [okX, k1, k2, tl, schAV]; rw [Bool.eq_iff_iff]; simp; done)
                    | (simp [okX, k1, k2, k3, tl, schAV]; done)
                  · skip
                    have k3 : e.kind ≠ 3 := by simpa using hb
                    refine awp_reg1 zs [2, 4, 9, 10, 12, 14, 15, 16] fun K hK => ?_  -- region 21
                    try simp only [go_sem, List.map_cons, List.map_nil, ↓reduceIte, Nat.reduceEqDiff, Nat.reduceLT, Nat.reduceSub, Nat.reduceAdd, Nat.reduceMul, implies_true, true_and, and_true, cond_true, cond_false, Int.toNat_natCast, hn1]
                    iterate 14 (first | (refine And.intro ?_ ?_; · first | omega | assumption | (simp; done) | (intros; simp_all; done) | decide) | skip)
                    refine hK _ _ _ ?_
                    clear hK K
                    try simp only [go_sem, List.map_cons, List.map_nil, ↓reduceIte, Nat.reduceEqDiff, Nat.reduceLT, Nat.reduceSub, Nat.reduceAdd, Nat.reduceMul, implies_true, true_and, and_true, cond_true, cond_false]
                    first
                    | (simp [okX, k1, tl, schAV]; done)
                    | (simp [okX, k1, k2, tl, schAV]; done)
                    | (simp [okX, k1, k2, tl, schAV]; rw [Bool.eq_iff_iff]; simp; done)
                    | (simp [okX, k1, k2, k3, tl, schAV]; done)
            rintro T1 _ _ ⟨t2, t4, t9, t10, t12, t14, t15, t16, rfl, rfl⟩
            refine awp_sel [2, 4, 9, 10, 12, 14, 15, 16] ?_
            simp only [tsel_eq, List.map_cons, List.map_nil, t2, t4, t9, t10, t12, t14, t15, t16]
            have hn3 : nth (s.map famAV) e.fam.toNat = famAV (famAt s e.fam) := nth_map famAV s _ (by omega)
            refine awp_drw rfl zs [2, 4, 10, 12, 14, 15, 190] [.m, .q, .m, .m, .m, .q, .q, .q, .q, .m, .m, .q, .q, .m, .m, .q, .q, .q, .q, .q, .q, .q, .q, .q] (by kernel_rfl) (fun _ _ _ _ _ h => h) fun K hK => ?_  -- region 29
            try simp only [go_sem, List.map_cons, List.map_nil, ↓reduceIte, Nat.reduceEqDiff, Nat.reduceLT, Nat.reduceSub, Nat.reduceAdd, Nat.reduceMul, implies_true, true_and, and_true, cond_true, cond_false, Int.toNat_natCast, hn1, hn3]
            iterate 14 (first | (refine And.intro ?_ ?_; · first | omega | assumption | (simp; done) | (intros; simp_all; done) | decide) | skip)
            refine hK _ _ _ ?_
            clear hK K
            refine awp_cond (b := _) (by simp only [go_sem, List.map_cons, List.map_nil, ↓reduceIte, Nat.reduceEqDiff, Nat.reduceLT, Nat.reduceSub, Nat.reduceAdd, Nat.reduceMul, implies_true, true_and, and_true, cond_true, cond_false]; rfl) (fun hb => ?_) (fun hb => ?_)  -- t190
            · skip
              have hx : badX s low m v e = true := by unfold badX; rw [hf, ← hcs]; exact hb
              have hq : collectsB s clock low l = false := by rw [hq0, ← hd, hx]; rfl
              refine awp_reg zs [8] fun K hK => ?_  -- region 30
              try simp only [go_sem, List.map_cons, List.map_nil, ↓reduceIte, Nat.reduceEqDiff, Nat.reduceLT, Nat.reduceSub, Nat.reduceAdd, Nat.reduceMul, implies_true, true_and, and_true, cond_true, cond_false]
              iterate 14 (first | (refine And.intro ?_ ?_; · first | omega | assumption | (simp; done) | (intros; simp_all; done) | decide) | skip)
              refine hK _ _ _ ?_
              clear hK K
              refine awp_ret ?_
              try simp only [go_sem, List.map_cons, List.map_nil, ↓reduceIte, Nat.reduceEqDiff, Nat.reduceLT, Nat.reduceSub, Nat.reduceAdd, Nat.reduceMul, implies_true, true_and, and_true, cond_true, cond_false]
              refine ⟨_, rfl, ?_, Frz.eq ?_ trivial⟩
              · intro k hk; have h0 : k ≠ n := by omega
                simp [Heap.put, h0]
              · rw [hq]; first | done | (congr 1; rw [Bool.eq_iff_iff]; simp; done) | (congr 1; rw [Bool.eq_iff_iff]; simp; omega)
            · skip
              have hx : badX s low m v e = false := by unfold badX; rw [hf, ← hcs]; exact hb
              refine awp_skip ?_
              try simp only [go_sem, List.map_cons, List.map_nil, ↓reduceIte, Nat.reduceEqDiff, Nat.reduceLT, Nat.reduceSub, Nat.reduceAdd, Nat.reduceMul, implies_true, true_and, and_true, cond_true, cond_false]
              refine hK5 _ _ _ ?_
              first | clear hK5 K5 | skip
              refine awp_reg1 zs [2, 4, 10, 12, 14, 15] fun K hK => ?_  -- region 11
              try simp only [go_sem, List.map_cons, List.map_nil, ↓reduceIte, Nat.reduceEqDiff, Nat.reduceLT, Nat.reduceSub, Nat.reduceAdd, Nat.reduceMul, implies_true, true_and, and_true, cond_true, cond_false]
              iterate 14 (first | (refine And.intro ?_ ?_; · first | omega | assumption | (simp; done) | (intros; simp_all; done) | decide) | skip)
              refine hK _ _ _ ?_
              clear hK K
              try simp only [go_sem, List.map_cons, List.map_nil, ↓reduceIte, Nat.reduceEqDiff, Nat.reduceLT, Nat.reduceSub, Nat.reduceAdd, Nat.reduceMul, implies_true, true_and, and_true, cond_true, cond_false]
              have hp9 : (if e.kind = 1 then 1 else 0) ≤ 1 := by split <;> omega
              refine ⟨⟨i + 1, p + (if e.kind = 1 then 1 else 0), by omega, by omega, by rw [Rt.w1 (by omega)], by rw [← hd, hx]; rfl, ?_⟩, by rw [Rt.w1 (by omega)]; simp; omega⟩
              rw [← hpu]; unfold putsOf; by_cases h9 : e.kind = 1 <;> simp [h9] <;> omega
      · skip
        have hge : i = m.length := by simp at hb; omega
        rw [hge, List.drop_length] at hd hpu
        have hq : collectsB s clock low l = decide (putsOf m = v.length) := by rw [hq0, ← hd]; rfl
        have hpp : p = putsOf m := by simpa [putsOf] using hpu
        refine awp_exit ?_
        try simp only [go_sem, List.map_cons, List.map_nil, ↓reduceIte, Nat.reduceEqDiff, Nat.reduceLT, Nat.reduceSub, Nat.reduceAdd, Nat.reduceMul, implies_true, true_and, and_true, cond_true, cond_false]
        refine hK3 _ _ _ ?_
        first | clear hK3 K3 | skip
        refine awp_reg zs [8] fun K hK => ?_  -- region 31
        try simp only [go_sem, List.map_cons, List.map_nil, ↓reduceIte, Nat.reduceEqDiff, Nat.reduceLT, Nat.reduceSub, Nat.reduceAdd, Nat.reduceMul, implies_true, true_and, and_true, cond_true, cond_false]
        iterate 14 (first | (refine And.intro ?_ ?_; · first | omega | assumption | (simp; done) | (intros; simp_all; done) | decide) | skip)
        refine hK _ _ _ ?_
        clear hK K
        refine awp_ret ?_
        try simp only [go_sem, List.map_cons, List.map_nil, ↓reduceIte, Nat.reduceEqDiff, Nat.reduceLT, Nat.reduceSub, Nat.reduceAdd, Nat.reduceMul, implies_true, true_and, and_true, cond_true, cond_false]
        refine ⟨_, rfl, ?_, Frz.eq ?_ trivial⟩
        · intro k hk; have h0 : k ≠ n := by omega
          simp [Heap.put, h0]
        · rw [hq]; first | done | (congr 1; rw [Bool.eq_iff_iff]; simp; done) | (congr 1; rw [Bool.eq_iff_iff]; simp; omega)


end Go.Proofs.Ytijhkfhflpmajaa
namespace Go.Proofs.Ytijhkfhflpmajaa
open Go Go.Sx Go.Rt

theorem prepE_alike {s : List Fml} {clock clock' : Int} {times times' : List Int} {k k' : Int} {l : List Ent} (h : (prepE s clock times k l).2 = 0) (hb : boundsE s clock' times' k' = 0) : prepE s clock' times' k' l = prepE s clock times k l := by
  have h1 := (prepE_zero h).1
  have e1 : ∀ {c ts kk}, boundsE s c ts kk = 0 → prepE s c ts kk l = if badsE s l ≠ 0 then ([], badsE s l) else sortedE l := fun h => by unfold prepE; rw [if_neg (by simp [h])]
  rw [e1 h1, e1 hb]
theorem boundsE_iff {s : List Fml} {clock : Int} {times : List Int} {k : Int} : boundsE s clock times k = 0 ↔ schemaE s = 0 ∧ timesBad (clock :: times) = false ∧ bout k 1 16 = false := by
  constructor
  · exact boundsE_zero
  · intro ⟨h1, h2, h3⟩; unfold boundsE; rw [if_neg (by simp [h1]), if_neg (by simp [h2]), if_neg (by simp [h3])]
theorem bounds_vis {s : List Fml} {clock : Int} {times : List Int} {k : Int} (h : boundsE s clock times k = 0) : boundsE s clock [1099511627776] 16 = 0 := by
  obtain ⟨h1, h2, _⟩ := boundsE_iff.1 h
  refine boundsE_iff.2 ⟨h1, ?_, rfl⟩
  simp only [timesBad, List.any_cons, List.any_nil, Bool.or_false, Bool.or_eq_false_iff] at h2 ⊢
  exact ⟨h2.1, rfl⟩
theorem max_of {s : List Fml} (h : schemaE s = 0) : ∀ f ∈ s, 1 ≤ f.max ∧ f.max ≤ 16 := by
  unfold schemaE at h
  split at h
  · exact absurd h (by decide)
  split at h
  · exact absurd h (by decide)
  rename_i h1 h2
  have key : ∀ (all l : List Fml) (i : Nat), famsBad all l i = false → ∀ f ∈ l, 1 ≤ f.max ∧ f.max ≤ 16 := by
    intro all l
    induction l with
    | nil => intro i _ f hf; cases hf
    | cons x l ih =>
      intro i h f hf
      rw [famsBad_cons] at h
      simp only [Bool.or_eq_false_iff] at h
      rcases List.mem_cons.1 hf with rfl | hf
      · have := h.1
        simp only [famBad, Bool.or_eq_false_iff] at this
        have := bout_false this.1.2
        omega
      · exact ih _ h.2 f hf
  exact key s s 0 (Bool.eq_false_iff.2 h2)
theorem famAt_mem {s : List Fml} {e : Ent} (h : checkedE s e = 0) : famAt s e.fam ∈ s := by
  obtain ⟨h1, h2⟩ := checkedE_zero h
  have h3 := bout_false ((chk_iff e).1 h1).fam
  have hlt : e.fam.toNat < s.length := by omega
  simp [famAt, List.getD, List.getElem?_eq_getElem hlt]
theorem ts_hi {s : List Fml} {e : Ent} (h : checkedE s e = 0) : e.ts ≤ 1099511627776 := by
  have := bout_false ((chk_iff e).1 (checkedE_zero h).1).ts; omega

/-- what is visible, of a list that stands ready -/
theorem vis_ok {s : List Fml} {clock : Int} {times : List Int} {k : Int} {l : List Ent} (h : (prepE s clock times k l).2 = 0) : visE s clock l = (visL s clock (prepE s clock times k l).1, 0) := by
  obtain ⟨ho, hc, hb, _⟩ := prep_ok h
  have hp := prepE_alike (k' := 16) (times' := [1099511627776]) h (bounds_vis hb)
  unfold visE readE
  rw [hp, if_neg (by simp [h]), shownOf_eq _ _ _ _ _ ho, RD_vis ho (fun e he => ts_hi (hc e he)) (fun e he => (max_of (boundsE_iff.1 hb).1 _ (famAt_mem (hc e he))).2) (by decide)]
theorem visE_zero {s : List Fml} {clock : Int} {l : List Ent} (h : (visE s clock l).2 = 0) : (prepE s clock [1099511627776] 16 l).2 = 0 := by
  unfold visE readE at h
  by_cases h0 : (prepE s clock [1099511627776] 16 l).2 = 0
  · exact h0
  · rw [if_pos h0] at h; exact h

/-- those of one Seq are one -/
theorem dd_seq {l d : List Ent} (h : ddE [] l = some d) {x y : Ent} (hx : x ∈ l) (hy : y ∈ l) (hs : x.seq = y.seq) : x = y := by
  have h1 := (ddE_mem l [] d h x).2 (.inr hx)
  have h2 := (ddE_mem l [] d h y).2 (.inr hy)
  have h3 := ddE_seq l [] d h List.Pairwise.nil
  by_cases he : x = y
  · exact he
  · exact absurd hs (pairwise_ne h3 h1 h2 he)
theorem ddE_some : ∀ (l acc : List Ent), (∀ x ∈ acc ++ l, ∀ y ∈ acc ++ l, x.seq = y.seq → x = y) → ∃ d, ddE acc l = some d := by
  intro l
  induction l with
  | nil => intro acc _; exact ⟨acc, rfl⟩
  | cons e l ih =>
    intro acc h
    rw [ddE]
    cases hs : seqOf acc e.seq with
    | none =>
      simp only
      exact ih _ fun x hx y hy => h x (by simpa using hx) y (by simpa using hy)
    | some x =>
      obtain ⟨h1, h2⟩ := seqOf_some hs
      have := h x (by simp [h1]) e (by simp) h2
      simp only [this, if_true]
      refine ih _ fun x hx y hy => h x ?_ y ?_
      · rcases List.mem_append.1 hx with h | h <;> simp [h]
      · rcases List.mem_append.1 hy with h | h <;> simp [h]
theorem sortedE_zero {l : List Ent} : (sortedE l).2 = 0 ↔ ∃ d, ddE [] l = some d := by
  unfold sortedE
  cases h : ddE [] l with
  | none => simp
  | some d => simp
theorem badsE_iff {s : List Fml} {l : List Ent} : badsE s l = 0 ↔ ∀ e ∈ l, checkedE s e = 0 := ⟨badsE_fits s l, badsE_all⟩
/-- what stands ready: its parts do too -/
theorem prep_zero_iff {s : List Fml} {clock : Int} {times : List Int} {k : Int} {l : List Ent} : (prepE s clock times k l).2 = 0 ↔ boundsE s clock times k = 0 ∧ (∀ e ∈ l, checkedE s e = 0) ∧ ∀ x ∈ l, ∀ y ∈ l, x.seq = y.seq → x = y := by
  constructor
  · intro h
    obtain ⟨h1, h2, h3, _⟩ := prepE_zero h
    rw [h3] at h
    obtain ⟨d, hd⟩ := sortedE_zero.1 h
    exact ⟨h1, badsE_iff.1 h2, fun x hx y hy => dd_seq hd hx hy⟩
  · intro ⟨h1, h2, h3⟩
    unfold prepE
    rw [if_neg (by simp [h1]), if_neg (by simp [badsE_iff.2 h2])]
    exact sortedE_zero.2 (ddE_some l [] (by simpa using h3))

theorem nbackB_true (s : List Fml) (clock more : Int) (a b : List Ent) : nbackB s clock more a b = true := by
  unfold nbackB
  cases he : earlyB s clock more a b with
  | true => rfl
  | false =>
    simp only [cond_false]
    unfold earlyB at he
    simp only [cond_or, Bool.or_eq_false_iff, decide_eq_false_iff_not, Bool.not_eq_false', beq_iff_eq] at he
    obtain ⟨⟨⟨⟨⟨h1, h2⟩, h3⟩, h4⟩, _⟩, h6⟩ := he
    have hw : IntKind.i64.wrap (1099511627776 - clock) = 1099511627776 - clock := w64 (by omega) (by omega)
    rw [hw] at h4
    have hw2 : IntKind.i64.wrap (clock + more) = clock + more := w64 (by omega) (by omega)
    rw [hw2]
    have hM := visE_zero h6
    obtain ⟨p1, p2, p3⟩ := prep_zero_iff.1 hM
    have hA : (prepE s clock [1099511627776] 16 a).2 = 0 := prep_zero_iff.2 ⟨p1, fun e he => p2 e (by simp [he]), fun x hx y hy => p3 x (by simp [hx]) y (by simp [hy])⟩
    have hb' : boundsE s (clock + more) [1099511627776] 16 = 0 := by
      obtain ⟨q1, q2, q3⟩ := boundsE_iff.1 p1
      refine boundsE_iff.2 ⟨q1, ?_, q3⟩
      simp only [timesBad, List.any_cons, List.any_nil, Bool.or_false, Bool.or_eq_false_iff]
      exact ⟨by simp [bout]; omega, rfl⟩
    have hM' : (prepE s (clock + more) [1099511627776] 16 (a ++ b)).2 = 0 := prep_zero_iff.2 ⟨hb', p2, p3⟩
    rw [vis_ok hA, vis_ok hM']
    simp only [bne_self_eq_false, cond_false]
    rw [Bool.not_eq_true', List.any_eq_false]
    intro e hea hx
    unfold backX at hx
    simp only [cond_and, Bool.and_eq_true, beq_iff_eq, Bool.not_eq_true'] at hx
    obtain ⟨⟨hk, hnv⟩, hw'⟩ := hx
    obtain ⟨oa, ca, _, ma⟩ := prep_ok hA
    obtain ⟨oM, cM, _, mM⟩ := prep_ok hM'
    have heM : e ∈ (prepE s (clock + more) [1099511627776] 16 (a ++ b)).1 := (mM e).2 (by simp [hea])
    have hem : e ∈ (prepE s clock [1099511627776] 16 a).1 := (ma e).2 hea
    unfold shownB at hw' hnv
    rw [List.any_eq_true] at hw'
    obtain ⟨x, hx, hxe⟩ := hw'
    obtain ⟨hxM, hxv⟩ := List.mem_filter.1 hx
    have hxv : vis s (clock + more) (prepE s (clock + more) [1099511627776] 16 (a ++ b)).1 x := by simpa using hxv
    have hse : x.seq = e.seq := by unfold shownX at hxe; simp at hxe; exact hxe.1.1.1.2
    have : x = e := by
      by_cases h : x = e
      · exact h
      · exact absurd hse (pairwise_ne oM.seq hxM heM h)
    subst this
    have hv := vis_back (clock := clock) (clock' := clock + more) oa (M := (prepE s (clock + more) [1099511627776] 16 (a ++ b)).1) (fun y hy => (mM y).2 (by simp [(ma y).1 hy])) (by omega)
      (fun y hy => (ttl_of (boundsE_iff.1 hb').1 _ (famAt_mem (cM y hy))).1) hem hk hxv
    rw [List.any_eq_false] at hnv
    exact hnv x (List.mem_filter.2 ⟨hem, by simpa using hv⟩) (by simp [shownX])

theorem shownG_len (f : List Fml) (st : SSt) (d : Dec) : (shownG f st d).out.length ≤ st.out.length + 1 := by
  unfold shownG; repeat' split
  all_goals simp
theorem readE_length (s : List Fml) (clock t n : Int) (l : List Ent) : (readE s clock t n l).1.length ≤ 2 * l.length + 1 := by
  unfold readE
  split
  · simp
  · rename_i h
    obtain ⟨_, _, _, _, hlen⟩ := prepE_zero (by simpa using h)
    have h2 := evP_len (prepE s clock [t] n l).1 (wlk0 s clock)
    have h1 : ∀ (v : List Ev) (st : SSt), (v.foldl (evT (shownG s) id fun st _ _ => st) st).out.length ≤ st.out.length + v.length := by
      intro v
      induction v with
      | nil => intro st; simp
      | cons x v ih =>
        intro st
        rw [List.foldl_cons]
        have h3 := ih (evT (shownG s) id (fun st _ _ => st) st x)
        have h4 : (evT (shownG s) id (fun st _ _ => st) st x).out.length ≤ st.out.length + 1 := by
          cases x with
          | g d => exact shownG_len s st d
          | o => show st.out.length ≤ _; omega
          | m e b => show st.out.length ≤ _; omega
        simp only [List.length_cons]; omega
    have h5 := h1 (evP (prepE s clock [t] n l).1 (wlk0 s clock)) (sst0 t n)
    have h6 : (sst0 t n).out.length = 0 := rfl
    show (shownOf s clock t n _).out.length ≤ _
    unfold shownOf
    omega
theorem visE_length (s : List Fml) (clock : Int) (l : List Ent) : (visE s clock l).1.length ≤ 2 * l.length + 1 := readE_length s clock _ _ l
end Go.Proofs.Ytijhkfhflpmajaa


namespace Go.Rt
open Go Go.Sx Classical

theorem order_ext : ∀ {l l' : List Ent}, (∀ x, x ∈ l ↔ x ∈ l') → (l.Pairwise fun a b => compE a b < 0) → (l'.Pairwise fun a b => compE a b < 0) → l = l'
  | [], [], _, _, _ => rfl
  | [], b :: l', h, _, _ => by have := (h b).2 (by simp); cases this
  | a :: l, [], h, _, _ => by have := (h a).1 (by simp); cases this
  | a :: l, b :: l', h, h1, h2 => by
    obtain ⟨a1, a2⟩ := List.pairwise_cons.1 h1
    obtain ⟨b1, b2⟩ := List.pairwise_cons.1 h2
    have hab : a = b := by
      have ha : a ∈ b :: l' := (h a).1 (by simp)
      have hb : b ∈ a :: l := (h b).2 (by simp)
      rcases List.mem_cons.1 ha with e | ha
      · exact e
      · rcases List.mem_cons.1 hb with e | hb
        · exact e.symm
        · exact absurd (a1 b hb) (comp_asym (b1 a ha))
    subst hab
    rw [order_ext (fun x => ?_) a2 b2]
    have hx := h x
    constructor
    · intro hl
      rcases List.mem_cons.1 (hx.1 (by simp [hl])) with e | h'
      · subst e; exact absurd (a1 x hl) (comp_irr x)
      · exact h'
    · intro hl
      rcases List.mem_cons.1 (hx.2 (by simp [hl])) with e | h'
      · subst e; exact absurd (b1 x hl) (comp_irr x)
      · exact h'

/-- a greatest one, by time and then by Seq -/
theorem exists_max {m : List Ent} {A : Ent → Prop} {k : Ent} (hk : k ∈ m) (hA : A k) : ∃ g ∈ m, A g ∧ (k.ts < g.ts ∨ k.ts = g.ts ∧ k.seq ≤ g.seq) ∧ ∀ x ∈ m, A x → x.ts < g.ts ∨ x.ts = g.ts ∧ x.seq ≤ g.seq := by
  suffices h : ∀ (l : List Ent), (∀ x ∈ l, x ∈ m) → ∃ g ∈ m, A g ∧ (k.ts < g.ts ∨ k.ts = g.ts ∧ k.seq ≤ g.seq) ∧ ∀ x ∈ l, A x → x.ts < g.ts ∨ x.ts = g.ts ∧ x.seq ≤ g.seq from h m fun x hx => hx
  intro l
  induction l with
  | nil => intro _; exact ⟨k, hk, hA, .inr ⟨rfl, Int.le_refl _⟩, fun x hx => by cases hx⟩
  | cons e l ih =>
    intro hl
    obtain ⟨g, hg, hAg, hkg, hx⟩ := ih fun x hx => hl x (by simp [hx])
    by_cases he : A e ∧ (g.ts < e.ts ∨ g.ts = e.ts ∧ g.seq ≤ e.seq)
    · refine ⟨e, hl e (by simp), he.1, by rcases he.2 with h | h <;> rcases hkg with h' | h' <;> omega, fun x hxm hAx => ?_⟩
      rcases List.mem_cons.1 hxm with rfl | h
      · exact .inr ⟨rfl, Int.le_refl _⟩
      · have := hx x h hAx
        rcases he.2 with h9 | h9 <;> omega
    · refine ⟨g, hg, hAg, hkg, fun x hxm hAx => ?_⟩
      rcases List.mem_cons.1 hxm with rfl | h
      · have : ¬ (g.ts < x.ts ∨ g.ts = x.ts ∧ g.seq ≤ x.seq) := fun h => he ⟨hAx, h⟩
        omega
      · exact hx x h hAx

/-- the topmost K of what is counted above -/
theorem topmost {s : List Fml} {clock : Int} {m : List Ent} (hm : InOrder m) {e : Ent} {K : Nat} (hK : K ≤ above s clock m e) :
    K ≤ (m.filter fun x => decide ((counted s clock m x ∧ mates x e ∧ e.ts < x.ts) ∧ above s clock m x < K)).length := by
  have h1 : (m.filter fun x => decide ((counted s clock m x ∧ mates x e ∧ e.ts < x.ts) ∧ above s clock m x < K)) = (m.filter fun x => decide (counted s clock m x ∧ mates x e ∧ e.ts < x.ts)).filter fun x => decide (above s clock m x < K) := by
    rw [List.filter_filter]
    refine List.filter_congr fun x _ => ?_
    by_cases h1 : (counted s clock m x ∧ mates x e ∧ e.ts < x.ts) <;> by_cases h2 : above s clock m x < K <;> simp [h1, h2]
  rw [h1]
  generalize hF : (m.filter fun x => decide (counted s clock m x ∧ mates x e ∧ e.ts < x.ts)) = F
  have hKF : K ≤ F.length := by rw [← hF]; exact hK
  have hFm : ∀ x ∈ F, x ∈ m ∧ counted s clock m x ∧ mates x e ∧ e.ts < x.ts := fun x hx => by
    rw [← hF] at hx
    obtain ⟨a, b⟩ := List.mem_filter.1 hx
    exact ⟨a, by simpa using b⟩
  have hFs : F.Pairwise fun a b => compE a b < 0 := by rw [← hF]; exact hm.srt.sublist List.filter_sublist
  -- the one at place i has at most i above it
  have hidx : ∀ (u : List Ent) (x : Ent) (v : List Ent), F = u ++ x :: v → above s clock m x ≤ u.length := by
    intro u x v he
    have hxF : x ∈ F := by rw [he]; simp
    obtain ⟨_, hxc, hxm, hxt⟩ := hFm x hxF
    have e1 : above s clock m x ≤ (F.filter fun y => decide (x.ts < y.ts)).length := by
      unfold above
      have e2 : (m.filter fun y => decide (counted s clock m y ∧ mates y x ∧ x.ts < y.ts)) = F.filter fun y => decide (x.ts < y.ts) := by
        rw [← hF, List.filter_filter]
        refine List.filter_congr fun y _ => ?_
        rw [Bool.eq_iff_iff, Bool.and_eq_true]
        simp only [decide_eq_true_eq]
        exact ⟨fun ⟨a, b, c⟩ => ⟨c, a, b.trans hxm, by omega⟩, fun ⟨c, a, b, _⟩ => ⟨a, b.trans hxm.symm, c⟩⟩
      rw [e2]; exact Nat.le_refl _
    have e3 : (F.filter fun y => decide (x.ts < y.ts)).length ≤ u.length := by
      rw [he, List.filter_append, List.length_append]
      have : ((x :: v).filter fun y => decide (x.ts < y.ts)).length = 0 := count_none (A := fun y => x.ts < y.ts) fun y hy hlt => by
        rcases List.mem_cons.1 hy with rfl | hy
        · omega
        · have hyF : y ∈ F := by rw [he]; simp [hy]
          obtain ⟨_, hyc, hym, _⟩ := hFm y hyF
          have hxy : compE x y < 0 := by
            rw [he] at hFs
            exact (List.pairwise_cons.1 (List.pairwise_append.1 hFs).2.1).1 y hy
          rcases newer_first hxy (hxm.trans hym.symm) ⟨fun h => absurd h hxc.1.1.2, fun h => absurd h hyc.1.1.2⟩ ⟨fun h => absurd h hxc.1.1.1, fun h => absurd h hyc.1.1.1⟩ with h | h <;> omega
      have := List.length_filter_le (fun y => decide (x.ts < y.ts)) u
      omega
    omega
  have hsplit : F = F.take K ++ F.drop K := (List.take_append_drop K F).symm
  rw [hsplit, List.filter_append, List.length_append]
  have hall : (F.take K).filter (fun x => decide (above s clock m x < K)) = F.take K := by
    refine List.filter_eq_self.2 fun x hx => ?_
    obtain ⟨u, v, huv⟩ := List.append_of_mem hx
    have h2 := hidx u x (v ++ F.drop K) (hsplit.trans (by rw [huv]; simp))
    have h3 : u.length < K := by
      have : (F.take K).length = u.length + 1 + v.length := by rw [huv, List.length_append, List.length_cons]; omega
      have : (F.take K).length ≤ K := by rw [List.length_take]; omega
      omega
    exact decide_eq_true (by omega)
  rw [hall]
  have : (F.take K).length = K := by rw [List.length_take]; omega
  omega

/-- as many are counted above the other -/
theorem above_ge {s : List Fml} {clock clock' : Int} {m m' : List Ent} (hm : InOrder m) {e e' : Ent} {K : Nat} (hK : K ≤ above s clock m e)
    (h : ∀ x ∈ m, counted s clock m x → mates x e → e.ts < x.ts → above s clock m x < K → ∃ y ∈ m', counted s clock' m' y ∧ mates y e' ∧ e'.ts < y.ts ∧ y.ts = x.ts) : K ≤ above s clock' m' e' := by
  refine Nat.le_trans (topmost hm hK) ?_
  have h1 := filter_ts (m := m) (A := fun x => (counted s clock m x ∧ mates x e ∧ e.ts < x.ts) ∧ above s clock m x < K) (fun x hx y hy a b ht => counted_ts hm hx hy a.1.1 b.1.1 (a.1.2.1.trans b.1.2.1.symm) ht) (l := m) (fun x hx => hx) hm.seq
  have h2 := nodup_sub (l' := (m'.filter fun x => decide (counted s clock' m' x ∧ mates x e' ∧ e'.ts < x.ts)).map (·.ts)) h1 fun t ht => by
    obtain ⟨x, hx, rfl⟩ := List.mem_map.1 ht
    obtain ⟨hxm, ha⟩ := List.mem_filter.1 hx
    have ha : (counted s clock m x ∧ mates x e ∧ e.ts < x.ts) ∧ above s clock m x < K := by simpa using ha
    obtain ⟨y, hy, b1, b2, b3, b4⟩ := h x hxm ha.1.1 ha.1.2.1 ha.1.2.2 ha.2
    rw [← b4]
    exact List.mem_map.2 ⟨y, List.mem_filter.2 ⟨hy, by simp [b1, b2, b3]⟩, rfl⟩
  rw [List.length_map, List.length_map] at h2
  exact h2

/-- out is out for all of one group -/
theorem masked_grp {m : List Ent} {x y : Ent} (hg : mates x y) (ht : x.ts = y.ts) (h : masked m x) : masked m y := by
  obtain ⟨k, hk, ho, hkt⟩ := h
  refine ⟨k, hk, ?_, by omega⟩
  rcases ho with ⟨h5, hf⟩ | ⟨h4, hf⟩
  · exact .inl ⟨h5, hf.trans hg.1⟩
  · exact .inr ⟨h4, hf.trans hg⟩
theorem masked_below {m : List Ent} {x y : Ent} (hg : mates x y) (ht : y.ts ≤ x.ts) (h : masked m x) : masked m y := by
  obtain ⟨k, hk, ho, hkt⟩ := h
  refine ⟨k, hk, ?_, by omega⟩
  rcases ho with ⟨h5, hf⟩ | ⟨h4, hf⟩
  · exact .inl ⟨h5, hf.trans hg.1⟩
  · exact .inr ⟨h4, hf.trans hg⟩
theorem expd_below {s : List Fml} {clock : Int} {x y : Ent} (hg : mates x y) (ht : y.ts ≤ x.ts) (h : expd s clock x) : expd s clock y := by
  unfold expd at *
  rw [hg.1.1] at h
  exact ⟨h.1, by omega⟩
theorem out_below {s : List Fml} {clock : Int} {m : List Ent} {x y : Ent} (hg : mates x y) (ht : y.ts ≤ x.ts) (h : isOut s clock m x) : isOut s clock m y :=
  h.elim (fun h => .inl (masked_below hg ht h)) fun h => .inr (expd_below hg ht h)
theorem lone_grp {m : List Ent} {x y : Ent} (hg : grp x y) (h : lone m x) : lone m y := fun z hz hgz => h z hz (hgz.trans hg.symm)

/-- more is seen: what was counted above is -/
theorem above_more {s : List Fml} {clock clock' : Int} {m M : List Ent} (hm : InOrder m) (hsub : ∀ x ∈ m, x ∈ M) {e e' : Ent} (hg : mates e e') (ht : e.ts = e'.ts) (hout : ¬ isOut s clock' M e') : above s clock m e ≤ above s clock' M e' :=
  above_le hm fun x hx hcx hmt hlt => by
    obtain ⟨y, hy, hfy, hgy⟩ := exists_first (hsub x hx) hcx.1.1
    have hye : mates y e' := (hgy.2.2.1.trans hmt).trans hg
    refine ⟨y, hy, ⟨hfy, fun h => hout (out_below hye (by have := hgy.2.2.2; omega) h), fun h => hcx.2.2 fun z hz hgz => h z (hsub z hz) (hgz.trans hgy.symm)⟩, hye, by have := hgy.2.2.2; omega, hgy.2.2.2⟩

/-- a list, its squash, what comes behind -/
structure Behind (s : List Fml) (clock clock' : Int) (mj : Bool) (low : Int) (m b M N : List Ent) : Prop where
  om : InOrder m
  oM : InOrder M
  oN : InOrder N
  mM : ∀ x, x ∈ M ↔ x ∈ m ∨ x ∈ b
  mN : ∀ x, x ∈ N ↔ x ∈ m.flatMap (keepD s clock mj low m) ∨ x ∈ b
  hc : clock ≤ clock'
  ttl : ∀ e ∈ M, 0 ≤ (famAt s e.fam).ttl
  max : ∀ e ∈ M, 1 ≤ (famAt s e.fam).max
  kind : ∀ e ∈ M, 1 ≤ e.kind ∧ e.kind ≤ 5
  low : mj = true → ∀ e ∈ b, low < e.ts
  seq : mj = true → ∀ x ∈ m, ∀ e ∈ b, x.seq < e.seq

section
variable {s : List Fml} {clock clock' : Int} {mj : Bool} {low : Int} {m b M N : List Ent}

theorem Behind.sub (h : Behind s clock clock' mj low m b M N) : ∀ x ∈ m, x ∈ M := fun x hx => (h.mM x).2 (.inl hx)
theorem Behind.subb (h : Behind s clock clock' mj low m b M N) : ∀ x ∈ b, x ∈ M := fun x hx => (h.mM x).2 (.inr hx)
theorem Behind.subN (h : Behind s clock clock' mj low m b M N) : ∀ x ∈ b, x ∈ N := fun x hx => (h.mN x).2 (.inr hx)
theorem Behind.keptN (h : Behind s clock clock' mj low m b M N) {y : Ent} (hy : y ∈ m) (hk : keeps s clock mj low m y) : form m y ∈ N := (h.mN _).2 (.inl (mem_T.2 ⟨y, hy, hk, rfl⟩))
theorem out_later (hc : clock ≤ clock') (hs : ∀ x ∈ m, x ∈ M) {e : Ent} (h : isOut s clock m e) : isOut s clock' M e := by
  rcases h with ⟨x, hx, ho, ht⟩ | h
  · exact .inl ⟨x, hs x hx, ho, ht⟩
  · exact .inr ⟨h.1, by have := h.2; omega⟩

/-- in N masked is in M masked -/
theorem Behind.maskM (h : Behind s clock clock' mj low m b M N) {e : Ent} (hk : masked N e) : masked M e := by
  obtain ⟨k, hkN, ho, ht⟩ := hk
  rcases (h.mN k).1 hkN with hk | hk
  · obtain ⟨z, hz, _, rfl⟩ := mem_T.1 hk
    have hl := form_like m z
    refine ⟨z, h.sub z hz, ?_, by rw [← hl.ts]; exact ht⟩
    rcases ho with ⟨h5, hf⟩ | ⟨h4, hf⟩
    · exact .inl ⟨hl.k5.1 h5, ((hl.fams (.refl e)).1 hf)⟩
    · exact .inr ⟨hl.k4.1 h4, ((hl.mate (.refl e)).1 hf)⟩
  · exact ⟨k, h.subb k hk, ho, ht⟩
/-- and back, of what is in N -/
theorem Behind.maskN (h : Behind s clock clock' mj low m b M N) {e : Ent} (heN : e ∈ N) (hv : ver e) (hk : masked M e) : masked N e := by
  obtain ⟨k, hkM, ho, ht⟩ := hk
  rcases (h.mM k).1 hkM with hk | hk
  · rcases (h.mN e).1 heN with he | he
    · exfalso
      obtain ⟨z, hz, hkz, rfl⟩ := mem_T.1 he
      have hl := form_like m z
      have hvz := hl.ver.1 hv
      refine ((keeps_ver hvz).1 hkz).2.1 (.inl ⟨k, hk, ?_, by rw [← hl.ts]; exact ht⟩)
      rcases ho with ⟨h5, hf⟩ | ⟨h4, hf⟩
      · exact .inl ⟨h5, ((Like.refl k).fams hl).1 hf⟩
      · exact .inr ⟨h4, ((Like.refl k).mate hl).1 hf⟩
    · have hlo : ∀ t, e.ts ≤ t → ¬ (mj = true ∧ t ≤ low) := fun t ht' ⟨hm, hl⟩ => by have := h.low hm e he; omega
      have fam5 : ∀ k ∈ m, k.kind = 5 → famOf k e → e.ts ≤ k.ts → masked N e := fun k hk h5 hf ht => by
        obtain ⟨g, hg, ⟨g5, gf⟩, hkg, hmx⟩ := exists_max (A := fun x => x.kind = 5 ∧ famOf x e) hk ⟨h5, hf⟩
        have hgk : keeps s clock mj low m g := by
          unfold keeps; rw [if_pos g5]
          exact ⟨fun x hx hx5 hxf => hmx x hx ⟨hx5, hxf.trans gf⟩, hlo _ (by omega)⟩
        have hfg : form m g = g := by
          rcases form_cases m g with ⟨h1, _⟩ | ⟨_, h1, _⟩
          · exact h1
          · exact absurd g5 h1.2
        have hgN := h.keptN hg hgk
        rw [hfg] at hgN
        exact ⟨g, hgN, .inl ⟨g5, gf⟩, by omega⟩
      rcases ho with ⟨h5, hf⟩ | ⟨h4, hf⟩
      · exact fam5 k hk h5 hf ht
      · obtain ⟨g, hg, ⟨g4, gm⟩, hkg, hmx⟩ := exists_max (A := fun x => x.kind = 4 ∧ mates x e) hk ⟨h4, hf⟩
        by_cases hx : ∃ x ∈ m, x.kind = 5 ∧ famOf x g ∧ g.ts ≤ x.ts
        · obtain ⟨x, hx, x5, xf, xt⟩ := hx
          exact fam5 x hx x5 (xf.trans gm.1) (by omega)
        · have hgk : keeps s clock mj low m g := by
            unfold keeps; rw [if_neg (by omega), if_pos g4]
            refine ⟨⟨fun x hx' hx4 hxm => hmx x hx' ⟨hx4, hxm.trans gm⟩, fun x hx' hx5 hxf => ?_⟩, hlo _ (by omega)⟩
            by_cases hlt : x.ts < g.ts
            · exact hlt
            · exact absurd ⟨x, hx', hx5, hxf, by omega⟩ hx
          have hfg : form m g = g := by
            rcases form_cases m g with ⟨h1, _⟩ | ⟨_, h1, _⟩
            · exact h1
            · exact absurd g4 h1.1
          have hgN := h.keptN hg hgk
          rw [hfg] at hgN
          exact ⟨g, hgN, .inr ⟨g4, gm⟩, by omega⟩
  · exact ⟨k, h.subN k hk, ho, ht⟩

/-- a group of the list that is not of tombstones alone, is in, and stands high enough: it stays -/
theorem Behind.stays (h : Behind s clock clock' mj low m b M N) {w : Ent} (hw : w ∈ m) (hvw : ver w) (hw3 : w.kind ≠ 3) (hout : ¬ isOut s clock m w) (hab : (above s clock m w : Int) < (famAt s w.fam).max) : ∃ y ∈ N, grp y w ∧ y.kind ≠ 3 := by
  obtain ⟨d, hd, hfd, hg⟩ := exists_first hw hvw
  have hnl : ¬ lone m d := fun hl => hw3 (hl w hw hg.symm)
  have hod : ¬ isOut s clock m d := fun ho => hout (out_below hg.2.2.1 (by have := hg.2.2.2; omega) ho)
  have haw : above s clock m d ≤ above s clock m w := above_le h.om fun x hx hc hmt hlt => ⟨x, hx, hc, hmt.trans hg.2.2.1, by have := hg.2.2.2; omega, rfl⟩
  have hk : keeps s clock mj low m d := (keeps_ver hfd.1).2 ⟨hfd, hod, by rw [if_neg hnl, hg.2.2.1.1.1]; omega⟩
  refine ⟨form m d, h.keptN hd hk, ((form_like m d).grps (.refl w)).2 hg, ?_⟩
  rcases form_cases m d with ⟨h1, h2⟩ | ⟨h1, _⟩
  · rw [h1]; intro h3; exact h2 ⟨hfd.1, hnl, .inr h3⟩
  · rw [h1]; simp [hsk]

/-- what is counted high enough has its like in N -/
theorem Behind.toN (h : Behind s clock clock' mj low m b M N) {x : Ent} (hx : x ∈ M) (hc : counted s clock' M x) (hab : (above s clock' M x : Int) < (famAt s x.fam).max) : ∃ y ∈ N, counted s clock' N y ∧ mates y x ∧ y.ts = x.ts := by
  have hw : ∃ w ∈ N, grp w x ∧ w.kind ≠ 3 := by
    have : ∃ w ∈ M, grp w x ∧ w.kind ≠ 3 := by
      by_cases hh : ∃ w ∈ M, grp w x ∧ w.kind ≠ 3
      · exact hh
      · exfalso
        apply hc.2.2
        intro z hz hg
        by_cases h3 : z.kind = 3
        · exact h3
        · exact absurd ⟨z, hz, hg, h3⟩ hh
    obtain ⟨w, hwM, hg, hw3⟩ := this
    rcases (h.mM w).1 hwM with hwm | hwb
    · have hout : ¬ isOut s clock m w := fun ho => hc.2.1 (out_below hg.2.2.1 (by have := hg.2.2.2; omega) (out_later h.hc h.sub ho))
      have hle : above s clock m w ≤ above s clock' M x := above_more h.om h.sub hg.2.2.1 hg.2.2.2 hc.2.1
      obtain ⟨y, hy, hgy, hy3⟩ := h.stays hwm hg.1 hw3 hout (by rw [hg.2.2.1.1.1]; omega)
      exact ⟨y, hy, hgy.trans hg, hy3⟩
    · exact ⟨w, h.subN w hwb, hg, hw3⟩
  obtain ⟨w, hwN, hg, hw3⟩ := hw
  obtain ⟨y, hy, hfy, hgy⟩ := exists_first hwN hg.1
  have hyx := hgy.trans hg
  refine ⟨y, hy, ⟨hfy, ?_, fun hl => hw3 (hl w hwN hgy.symm)⟩, hyx.2.2.1, hyx.2.2.2⟩
  rintro (hk | hk)
  · exact hc.2.1 (.inl (masked_grp hyx.2.2.1 hyx.2.2.2 (h.maskM hk)))
  · exact hc.2.1 (.inr (expd_below hyx.2.2.1 (by have := hyx.2.2.2; omega) hk))

/-- what is counted in N has its like in M -/
theorem Behind.toM (h : Behind s clock clock' mj low m b M N) {x : Ent} (hx : x ∈ N) (hc : counted s clock' N x) : ∃ y ∈ M, counted s clock' M y ∧ mates y x ∧ y.ts = x.ts := by
  have hin : ∀ z ∈ N, ∃ w ∈ M, Like z w ∧ (z.kind ≠ 3 → ver z → ∃ u ∈ M, grp u w ∧ u.kind ≠ 3) := fun z hz => by
    rcases (h.mN z).1 hz with hz | hz
    · obtain ⟨y, hy, hk, rfl⟩ := mem_T.1 hz
      refine ⟨y, h.sub y hy, form_like m y, fun h3 hv => ?_⟩
      have hvy := (form_like m y).ver.1 hv
      rcases form_cases m y with ⟨h1, _⟩ | ⟨_, _, hnl, _⟩
      · rw [h1] at h3; exact ⟨y, h.sub y hy, .refl hvy, h3⟩
      · by_cases hh : ∃ u ∈ m, grp u y ∧ u.kind ≠ 3
        · obtain ⟨u, hu, hg, h3⟩ := hh; exact ⟨u, h.sub u hu, hg, h3⟩
        · exfalso; apply hnl
          intro z hz hg
          by_cases h3 : z.kind = 3
          · exact h3
          · exact absurd ⟨z, hz, hg, h3⟩ hh
    · exact ⟨z, h.subb z hz, .refl z, fun h3 hv => ⟨z, h.subb z hz, .refl hv, h3⟩⟩
  obtain ⟨w, hw, hl, _⟩ := hin x hx
  have hvx := hc.1.1
  obtain ⟨y, hy, hfy, hg⟩ := exists_first hw (hl.ver.1 hvx)
  have hgx : grp y x := ((Like.refl y).grps hl).2 hg
  refine ⟨y, hy, ⟨hfy, ?_, ?_⟩, hgx.2.2.1, hgx.2.2.2⟩
  · rintro (hk | hk)
    · exact hc.2.1 (.inl (h.maskN hx hvx (masked_grp hgx.2.2.1 hgx.2.2.2 hk)))
    · exact hc.2.1 (.inr (expd_below hgx.2.2.1 (by have := hgx.2.2.2; omega) hk))
  · intro hlo
    apply hc.2.2
    intro z hz hgz
    by_cases h3 : z.kind = 3
    · exact h3
    · obtain ⟨v, hv, hlv, hu⟩ := hin z hz
      obtain ⟨u, huM, hgu, hu3⟩ := hu h3 hgz.1
      have : grp u y := by
        have h1 : grp u z := ((Like.refl u).grps hlv).2 hgu
        exact (h1.trans hgz).trans hgx.symm
      exact absurd (hlo u huM this) hu3

/-- NEVER SEEN -/
theorem Behind.vis_iff (h : Behind s clock clock' mj low m b M N) (e : Ent) : (e ∈ M ∧ vis s clock' M e) ↔ (e ∈ N ∧ vis s clock' N e) := by
  constructor
  · rintro ⟨heM, hc, hab, k2, k3⟩
    have hve := hc.1.1
    have hk := h.kind e heM
    have hk1 : e.kind = 1 := by have := hve.1; have := hve.2; omega
    have heN : e ∈ N := by
      rcases (h.mM e).1 heM with he | he
      · have hv := vis_back h.om h.sub h.hc h.ttl he hk1 ⟨hc, hab, k2, k3⟩
        have hkp : keeps s clock mj low m e := (keeps_ver hve).2 ⟨hv.1.1, hv.1.2.1, by rw [if_neg hv.1.2.2]; exact hv.2.1⟩
        have hf : form m e = e := by
          rcases form_cases m e with ⟨h1, _⟩ | ⟨_, _, _, h1⟩
          · exact h1
          · omega
        have := h.keptN he hkp
        rw [hf] at this; exact this
      · exact h.subN e he
    refine ⟨heN, ⟨⟨hve, fun x hx hg => ?_⟩, ?_, fun hl => by have := hl e heN (.refl hve); omega⟩, ?_, k2, k3⟩
    · rcases (h.mN x).1 hx with hx | hx
      · obtain ⟨z, hz, _, rfl⟩ := mem_T.1 hx
        rw [(form_like m z).seq]
        exact hc.1.2 z (h.sub z hz) (((form_like m z).grps (.refl e)).1 hg)
      · exact hc.1.2 x (h.subb x hx) hg
    · rintro (hk | hk)
      · exact hc.2.1 (.inl (h.maskM hk))
      · exact hc.2.1 (.inr hk)
    · have : above s clock' N e ≤ above s clock' M e := above_le h.oN fun x hx hcx hmt hlt => by
        obtain ⟨y, hy, hcy, hym, hyt⟩ := h.toM hx hcx
        exact ⟨y, hy, hcy, hym.trans hmt, by omega, hyt⟩
      omega
  · rintro ⟨heN, hc, hab, k2, k3⟩
    have hve := hc.1.1
    have heM : e ∈ M := by
      rcases (h.mN e).1 heN with he | he
      · obtain ⟨z, hz, _, rfl⟩ := mem_T.1 he
        rcases form_cases m z with ⟨h1, _⟩ | ⟨h1, _⟩
        · rw [h1]; exact h.sub z hz
        · rw [h1] at k2; simp [hsk] at k2
      · exact h.subb e he
    have hk := h.kind e heM
    have hk1 : e.kind = 1 := by have := hve.1; have := hve.2; omega
    have hout : ¬ isOut s clock' M e := by
      rintro (hk | hk)
      · exact hc.2.1 (.inl (h.maskN heN hve hk))
      · exact hc.2.1 (.inr hk)
    have hmax := h.max e heM
    refine ⟨heM, ⟨⟨hve, fun x hx hg => ?_⟩, hout, fun hl => by have := hl e heM (.refl hve); omega⟩, ?_, k2, k3⟩
    · rcases (h.mM x).1 hx with hxm | hxb
      · obtain ⟨d, hd, hfd, hgd⟩ := exists_first hxm hg.1
        have hxd := hfd.2 x hxm hgd.symm
        have hde := hgd.trans hg
        by_cases hkd : keeps s clock mj low m d
        · have h1 := hc.1.2 _ (h.keptN hd hkd) (((form_like m d).grps (.refl e)).2 hde)
          rw [(form_like m d).seq] at h1
          omega
        · have hod : ¬ isOut s clock m d := fun ho => hout (out_below hde.2.2.1 (by have := hde.2.2.2; omega) (out_later h.hc h.sub ho))
          by_cases hl : Rt.lone m d
          · have hmj : mj = true := by
              cases hm : mj with
              | true => rfl
              | false => exact absurd ((keeps_ver hfd.1).2 ⟨hfd, hod, by rw [if_pos hl]; exact hm⟩) hkd
            rcases (h.mN e).1 heN with he | he
            · obtain ⟨z, hz, hkz, hez⟩ := mem_T.1 he
              have hlz := form_like m z
              rw [hez] at hg hve ⊢
              have hvz := hlz.ver.1 hve
              rw [hlz.seq]
              exact ((keeps_ver hvz).1 hkz).1.2 x hxm (((Like.refl x).grps hlz).1 hg)
            · have := h.seq hmj x hxm e he; omega
          · exfalso
            have habd : (famAt s d.fam).max ≤ (above s clock m d : Int) := by
              by_cases h9 : (above s clock m d : Int) < (famAt s d.fam).max
              · exact absurd ((keeps_ver hfd.1).2 ⟨hfd, hod, by rw [if_neg hl]; exact h9⟩) hkd
              · omega
            rw [hde.2.2.1.1.1] at habd
            have hK : (famAt s e.fam).max.toNat ≤ above s clock m d := by omega
            have := above_ge (clock' := clock') (m' := N) (e' := e) h.om hK fun y hy hcy hmt hlt habx => by
              have hye : mates y e := hmt.trans hde.2.2.1
              have hyt : e.ts < y.ts := by have := hde.2.2.2; omega
              have hk9 : keeps s clock mj low m y := (keeps_ver hcy.1.1).2 ⟨hcy.1, hcy.2.1, by rw [if_neg hcy.2.2, hye.1.1]; omega⟩
              have hfyN := h.keptN hy hk9
              have hly := form_like m y
              obtain ⟨u, hu, hfu, hgu⟩ := exists_first hfyN (hly.ver.2 hcy.1.1)
              have huy : mates u y := ((Like.refl u).mate hly).1 hgu.2.2.1
              have hut : u.ts = y.ts := by rw [hgu.2.2.2, hly.ts]
              refine ⟨u, hu, ⟨hfu, fun ho => hc.2.1 (out_below (huy.trans hye) (by omega) ho), fun hlo => ?_⟩, huy.trans hye, by omega, hut⟩
              have h3 := hlo _ hfyN hgu.symm
              rcases form_cases m y with ⟨h1, h2⟩ | ⟨h1, _⟩
              · rw [h1] at h3; exact h2 ⟨hcy.1.1, hcy.2.2, .inr h3⟩
              · rw [h1] at h3; simp [hsk] at h3
            omega
      · exact hc.1.2 x (h.subN x hxb) hg
    · by_cases h9 : (above s clock' M e : Int) < (famAt s e.fam).max
      · exact h9
      · exfalso
        have hK : (famAt s e.fam).max.toNat ≤ above s clock' M e := by omega
        have := above_ge (clock' := clock') (m' := N) (e' := e) h.oM hK fun x hx hcx hmt hlt habx => by
          obtain ⟨y, hy, hcy, hym, hyt⟩ := h.toN hx hcx (by rw [hmt.1.1]; omega)
          exact ⟨y, hy, hcy, hym.trans hmt, by omega, hyt⟩
        omega

theorem Behind.visL_eq (h : Behind s clock clock' mj low m b M N) : visL s clock' M = visL s clock' N := by
  refine order_ext (fun x => ?_) (h.oM.srt.sublist List.filter_sublist) (h.oN.srt.sublist List.filter_sublist)
  unfold visL
  rw [List.mem_filter, List.mem_filter, decide_eq_true_eq, decide_eq_true_eq]
  exact h.vis_iff x

theorem fold_max (l : List Ent) : ∀ (t : Int), t ≤ l.foldl (fun t e => max t e.ts) t ∧ (∀ e ∈ l, e.ts ≤ l.foldl (fun t e => max t e.ts) t) ∧ (l.foldl (fun t e => max t e.ts) t = t ∨ ∃ e ∈ l, e.ts = l.foldl (fun t e => max t e.ts) t) := by
  induction l with
  | nil => intro t; exact ⟨Int.le_refl _, fun e he => by (cases he), .inl rfl⟩
  | cons e l ih =>
    intro t
    obtain ⟨h1, h2, h3⟩ := ih (max t e.ts)
    rw [List.foldl_cons]
    refine ⟨by omega, fun x hx => ?_, ?_⟩
    · rcases List.mem_cons.1 hx with rfl | hx
      · omega
      · exact h2 x hx
    · rcases h3 with h3 | ⟨x, hx, h3⟩
      · rcases Int.le_total t e.ts with h | h
        · exact .inr ⟨e, by simp, by omega⟩
        · exact .inl (by omega)
      · exact .inr ⟨x, by simp [hx], h3⟩
theorem fold_le {l l' : List Ent} (h : ∀ e ∈ l, ∃ e' ∈ l', e.ts ≤ e'.ts) : l.foldl (fun t e => max t e.ts) 0 ≤ l'.foldl (fun t e => max t e.ts) 0 := by
  obtain ⟨a1, a2, a3⟩ := fold_max l 0
  obtain ⟨b1, b2, b3⟩ := fold_max l' 0
  rcases a3 with h0 | ⟨e, he, h0⟩
  · omega
  · obtain ⟨e', he', hle⟩ := h e he
    have := b2 e' he'
    omega

theorem Behind.top_eq (h : Behind s clock clock' mj low m b M N) : topOf s clock' M = topOf s clock' N := by
  rw [topOf_eq _ _ _ h.oM, topOf_eq _ _ _ h.oN]
  refine Int.le_antisymm (fold_le fun e he => ?_) (fold_le fun e he => ?_)
  · obtain ⟨heM, hc⟩ := List.mem_filter.1 he
    have hc : counted s clock' M e := by simpa using hc
    -- the greatest of its column
    obtain ⟨g, hg, ⟨gc, gm⟩, hkg, hmx⟩ := exists_max (A := fun x => counted s clock' M x ∧ mates x e) heM ⟨hc, .refl e⟩
    have h0 : above s clock' M g = 0 := by
      unfold above
      exact count_none (A := fun x => counted s clock' M x ∧ mates x g ∧ g.ts < x.ts) fun x hx ⟨a, b, c⟩ => by
        have := hmx x hx ⟨a, b.trans gm⟩; omega
    obtain ⟨y, hy, hcy, hym, hyt⟩ := h.toN hg gc (by have := h.max g hg; omega)
    exact ⟨y, List.mem_filter.2 ⟨hy, by simp [hcy]⟩, by omega⟩
  · obtain ⟨heN, hc⟩ := List.mem_filter.1 he
    obtain ⟨y, hy, hcy, hym, hyt⟩ := h.toM heN (by simpa using hc)
    exact ⟨y, List.mem_filter.2 ⟨hy, by simp [hcy]⟩, by omega⟩
end
end Go.Rt

namespace Go.Proofs.Ytijhkfhflpmajaa
open Go Go.Sx Go.Rt

theorem prepE_bad {s : List Fml} {clock : Int} {times : List Int} {k : Int} (l : List Ent) (h : boundsE s clock times k ≠ 0) : prepE s clock times k l = ([], boundsE s clock times k) := by
  unfold prepE; rw [if_pos h]

/-- what is shown of two lists that show the same, is the same -/
theorem agree_of {s : List Fml} {clock : Int} {A B : List Ent} (hA : (prepE s clock [1099511627776] 16 A).2 = 0) (hB : (prepE s clock [1099511627776] 16 B).2 = 0)
    (hv : visL s clock (prepE s clock [1099511627776] 16 A).1 = visL s clock (prepE s clock [1099511627776] 16 B).1)
    (ht : topOf s clock (prepE s clock [1099511627776] 16 A).1 = topOf s clock (prepE s clock [1099511627776] 16 B).1) (t n : Int) : agreeB s clock t n A B = true := by
  obtain ⟨oA, _, bA, _⟩ := prep_ok hA
  obtain ⟨oB, _, _, _⟩ := prep_ok hB
  have hr : readE s clock t n A = readE s clock t n B := by
    unfold readE
    by_cases hb : boundsE s clock [t] n = 0
    · rw [prepE_alike hA hb, prepE_alike hB hb, if_neg (by simp [hA]), if_neg (by simp [hB]), shownOf_eq _ _ _ _ _ oA, shownOf_eq _ _ _ _ _ oB, hv]
    · rw [prepE_bad A hb, prepE_bad B hb]
  have h0 : boundsE s clock [] 1 = 0 := by
    obtain ⟨q1, q2, _⟩ := boundsE_iff.1 bA
    refine boundsE_iff.2 ⟨q1, ?_, rfl⟩
    simp only [timesBad, List.any_cons, List.any_nil, Bool.or_false, Bool.or_eq_false_iff] at q2 ⊢
    exact q2.1
  have hT : ∀ {C : List Ent}, (prepE s clock [1099511627776] 16 C).2 = 0 → topE s clock C = (topOf s clock (prepE s clock [1099511627776] 16 C).1, 0) := fun {C} h => by
    unfold topE
    rw [prepE_alike h h0, if_neg (by simp [h])]
  unfold agreeB
  rw [hr, vis_ok hA, vis_ok hB, hT hA, hT hB, hv, ht]
  simp

theorem unseen_of {s : List Fml} {clock clock' : Int} {mj : Bool} {low : Int} {a b : List Ent} (h : (prepE s clock [low] 1 a).2 = 0) (hc : clock ≤ clock') (hM : (prepE s clock' [1099511627776] 16 (a ++ b)).2 = 0)
    (hap : ∀ x ∈ a, ∀ y ∈ b, x.seq ≠ y.seq) (hlow : mj = true → ∀ e ∈ b, low < e.ts) (hseq : mj = true → ∀ x ∈ a, ∀ e ∈ b, x.seq < e.seq) (t n : Int) :
    agreeB s clock' t n (a ++ b) ((squashE s clock mj low a).1 ++ b) = true := by
  rw [squash_ok h]
  obtain ⟨om, cm, bm, mm⟩ := prep_ok h
  obtain ⟨oM, cM, bM, mM⟩ := prep_ok hM
  obtain ⟨p1, p2, p3⟩ := prep_zero_iff.1 hM
  simp only
  generalize (prepE s clock [low] 1 a).1 = m at *
  have oT : InOrder (m.flatMap (keepD s clock mj low m)) := inOrder_T om
  have hcT : ∀ e ∈ m.flatMap (keepD s clock mj low m), checkedE s e = 0 ∧ ∃ y ∈ a, e.seq = y.seq := fun e he => by
    obtain ⟨y, hy, _, rfl⟩ := mem_T.1 he
    exact ⟨checked_form (cm y hy), y, (mm y).1 hy, (form_like m y).seq⟩
  have hN : (prepE s clock' [1099511627776] 16 (m.flatMap (keepD s clock mj low m) ++ b)).2 = 0 := by
    refine prep_zero_iff.2 ⟨bM, fun e he => ?_, fun x hx y hy hs => ?_⟩
    · rcases List.mem_append.1 he with h | h
      · exact (hcT e h).1
      · exact p2 e (by simp [h])
    · rcases List.mem_append.1 hx with h1 | h1 <;> rcases List.mem_append.1 hy with h2 | h2
      · by_cases he : x = y
        · exact he
        · exact absurd hs (pairwise_ne oT.seq h1 h2 he)
      · obtain ⟨z, hz, e⟩ := (hcT x h1).2
        exact absurd (e.symm.trans hs) (hap z hz y h2)
      · obtain ⟨z, hz, e⟩ := (hcT y h2).2
        exact absurd (e.symm.trans hs.symm) (hap z hz x h1)
      · exact p3 x (by simp [h1]) y (by simp [h2]) hs
  obtain ⟨oN, _, _, mN⟩ := prep_ok hN
  have hB : Behind s clock clock' mj low m b (prepE s clock' [1099511627776] 16 (a ++ b)).1 (prepE s clock' [1099511627776] 16 (m.flatMap (keepD s clock mj low m) ++ b)).1 :=
    { om := om, oM := oM, oN := oN
      mM := fun x => by rw [mM, List.mem_append, mm]
      mN := fun x => by rw [mN, List.mem_append]
      hc := hc
      ttl := fun e he => (ttl_of (boundsE_iff.1 bM).1 _ (famAt_mem (cM e he))).1
      max := fun e he => (max_of (boundsE_iff.1 bM).1 _ (famAt_mem (cM e he))).1
      kind := fun e he => by
        have := bout_false ((chk_iff e).1 (checkedE_zero (cM e he)).1).kind
        exact this
      low := hlow
      seq := fun hm x hx => hseq hm x ((mm x).1 hx) }
  exact agree_of hM hN hB.visL_eq hB.top_eq t n

theorem unseenB_true (s : List Fml) (clock more t n : Int) (a b : List Ent) : unseenB s clock more t n a b = true := by
  unfold unseenB
  cases he : earlyB s clock more a b with
  | true => rfl
  | false =>
    simp only [cond_false]
    unfold earlyB at he
    simp only [cond_or, Bool.or_eq_false_iff, decide_eq_false_iff_not, Bool.not_eq_false', beq_iff_eq] at he
    obtain ⟨⟨⟨⟨⟨h1, h2⟩, h3⟩, h4⟩, hap⟩, h6⟩ := he
    have hw : IntKind.i64.wrap (1099511627776 - clock) = 1099511627776 - clock := w64 (by omega) (by omega)
    rw [hw] at h4
    have hw2 : IntKind.i64.wrap (clock + more) = clock + more := w64 (by omega) (by omega)
    rw [hw2]
    obtain ⟨p1, p2, p3⟩ := prep_zero_iff.1 (visE_zero h6)
    obtain ⟨q1, q2, q3⟩ := boundsE_iff.1 p1
    have hA : (prepE s clock [0] 1 a).2 = 0 := prep_zero_iff.2 ⟨boundsE_iff.2 ⟨q1, by
      simp only [timesBad, List.any_cons, List.any_nil, Bool.or_false, Bool.or_eq_false_iff] at q2 ⊢
      exact ⟨q2.1, rfl⟩, rfl⟩, fun e he => p2 e (by simp [he]), fun x hx y hy => p3 x (by simp [hx]) y (by simp [hy])⟩
    have hM : (prepE s (clock + more) [1099511627776] 16 (a ++ b)).2 = 0 := prep_zero_iff.2 ⟨boundsE_iff.2 ⟨q1, by
      simp only [timesBad, List.any_cons, List.any_nil, Bool.or_false, Bool.or_eq_false_iff]
      exact ⟨by simp [bout]; omega, rfl⟩, q3⟩, p2, p3⟩
    rw [unseen_of (mj := false) (low := 0) hA (by omega) hM (fun x hx y hy hs => by
      unfold apartE at hap
      rw [List.all_eq_true] at hap
      have := List.all_eq_true.1 (hap x hx) y hy
      simp [hs] at this) (fun h => by cases h) (fun h => by cases h) t n]
    rw [squash_ok hA]; rfl

theorem munseenB_true (s : List Fml) (clock more t n low : Int) (a b : List Ent) : munseenB s clock more t n low a b = true := by
  unfold munseenB
  cases he : earlyM s clock more low a b with
  | true => rfl
  | false =>
    simp only [cond_false]
    cases ho : b.any (olderX low a) with
    | true => rfl
    | false =>
      simp only [cond_false]
      unfold earlyM at he
      simp only [cond_or, Bool.or_eq_false_iff, decide_eq_false_iff_not, Bool.not_eq_false', beq_iff_eq] at he
      obtain ⟨⟨⟨⟨⟨⟨h1, h2⟩, h3⟩, h4⟩, h5⟩, h5'⟩, h6⟩ := he
      have hw : IntKind.i64.wrap (1099511627776 - clock) = 1099511627776 - clock := w64 (by omega) (by omega)
      rw [hw] at h4
      have hw2 : IntKind.i64.wrap (clock + more) = clock + more := w64 (by omega) (by omega)
      rw [hw2]
      rw [List.any_eq_false] at ho
      have hold : ∀ e ∈ b, low < e.ts ∧ ∀ x ∈ a, x.seq < e.seq := fun e he => by
        have h9 := ho e he
        unfold olderX at h9
        simp only [Bool.or_eq_true, decide_eq_true_eq, List.any_eq_true, not_or, not_exists, not_and] at h9
        exact ⟨by omega, fun x hx => by have := h9.2 x hx; omega⟩
      obtain ⟨p1, p2, p3⟩ := prep_zero_iff.1 (visE_zero h6)
      obtain ⟨q1, q2, q3⟩ := boundsE_iff.1 p1
      have hA : (prepE s clock [low] 1 a).2 = 0 := prep_zero_iff.2 ⟨boundsE_iff.2 ⟨q1, by
        simp only [timesBad, List.any_cons, List.any_nil, Bool.or_false, Bool.or_eq_false_iff] at q2 ⊢
        exact ⟨q2.1, by simp [bout]; omega⟩, rfl⟩, fun e he => p2 e (by simp [he]), fun x hx y hy => p3 x (by simp [hx]) y (by simp [hy])⟩
      have hM : (prepE s (clock + more) [1099511627776] 16 (a ++ b)).2 = 0 := prep_zero_iff.2 ⟨boundsE_iff.2 ⟨q1, by
        simp only [timesBad, List.any_cons, List.any_nil, Bool.or_false, Bool.or_eq_false_iff]
        exact ⟨by simp [bout]; omega, rfl⟩, q3⟩, p2, p3⟩
      rw [unseen_of (mj := true) (low := low) hA (by omega) hM (fun x hx y hy hs => by
        have := (hold y hy).2 x hx; omega) (fun _ e he => (hold e he).1) (fun _ x hx e he => (hold e he).2 x hx) t n]
      rw [squash_ok hA]; rfl
end Go.Proofs.Ytijhkfhflpmajaa

