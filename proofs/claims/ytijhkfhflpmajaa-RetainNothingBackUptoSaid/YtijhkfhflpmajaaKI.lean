/- Own layer: the walks through the laws of squashing: agree, nothing back, never seen, major unseen. Of the program; no condition. -/
import Derived.Test.YtijhkfhflpmajaaKG
import Derived.Test.YtijhkfhflpmajaaKC
set_option linter.unusedSimpArgs false
set_option linter.unusedVariables false
namespace Go.Proofs.Ytijhkfhflpmajaa
open Go Go.Sx Go.Rt Go.Proofs

theorem squashE_fits (s : List Fml) (clock low : Int) (major : Bool) (l : List Ent) : ∀ e ∈ (squashE s clock major low l).1, e.fits := by
  by_cases h : (prepE s clock [low] 1 l).2 = 0
  · rw [squash_ok h]
    intro e he
    obtain ⟨y, hy, _, rfl⟩ := mem_T.1 he
    exact fits_of (checkedE_zero (checked_form ((prep_ok h).2.1 y hy))).1
  · unfold squashE; rw [if_pos h]; intro e he; cases he

def agreeB (s : List Fml) (clock t n : Int) (a b : List Ent) : Bool :=
  bif (bif (bif (bif (bif (readE s clock t n a).2 != (readE s clock t n b).2 then true else (visE s clock a).2 != 0) then true else (visE s clock b).2 != 0) then true else (topE s clock a).2 != 0) then true else (topE s clock b).2 != 0) then false
  else bif (bif decide ((readE s clock t n a).1 = (readE s clock t n b).1) then decide ((visE s clock a).1 = (visE s clock b).1) else false) then (topE s clock a).1 == (topE s clock b).1 else false

set_option maxHeartbeats 1600000 in
theorem c_law_agree (s : List Fml) (clock t vn : Int) (a b : List Ent) (ha : a.length ≤ 100000000) (hb9 : b.length ≤ 100000000) (hr : (readE s clock t vn a).1.length < 4611686018427387904) (hv : (visE s clock a).1.length < 4611686018427387904) (H : Heap) (n : Nat) :
    Ret Try.prog 17 [schAV s, .int .i64 clock, .int .i64 t, .int .i64 vn, entsAV a, entsAV b] H n (.bool (agreeB s clock t vn a b)) H n := by
  refine Ret.fin ?_
  refine acalls_of_awp Try.func17 rfl Try.ntmps17 (congrArg Array.toList Try.results17) (by simp) ?_
  simp only [go_sem]
  refine awp_reg zs [1, 2, 3, 4, 5, 6] fun K hK => ?_  -- region 0
  try simp only [go_sem, List.map_cons, List.map_nil, ↓reduceIte, Nat.reduceEqDiff, Nat.reduceLT, Nat.reduceSub, Nat.reduceAdd, Nat.reduceMul, implies_true, true_and, and_true, cond_true, cond_false]
  iterate 14 (first | (refine And.intro ?_ ?_; · first | omega | assumption | (simp; done) | (intros; simp_all; done) | decide) | skip)
  refine hK _ _ _ ?_
  clear hK K
  refine awp_reg zs [1, 2, 3, 4, 5, 6, 13, 14] fun K hK => ?_  -- region 1
  try simp only [go_sem, List.map_cons, List.map_nil, ↓reduceIte, Nat.reduceEqDiff, Nat.reduceLT, Nat.reduceSub, Nat.reduceAdd, Nat.reduceMul, implies_true, true_and, and_true, cond_true, cond_false]
  iterate 14 (first | (refine And.intro ?_ ?_; · first | omega | assumption | (simp; done) | (intros; simp_all; done) | decide) | skip)
  refine callK_use Try.func24 rfl rfl rfl ((c_retain_Read s clock t vn a ha _ _)) ?_
  try simp only [go_sem, List.map_cons, List.map_nil, ↓reduceIte, Nat.reduceEqDiff, Nat.reduceLT, Nat.reduceSub, Nat.reduceAdd, Nat.reduceMul, implies_true, true_and, and_true, cond_true, cond_false]
  iterate 14 (first | (refine And.intro ?_ ?_; · first | omega | assumption | (simp; done) | (intros; simp_all; done) | decide) | skip)
  refine hK _ _ _ ?_
  clear hK K
  refine awp_reg zs [1, 4, 5, 6, 13, 14, 15, 16] fun K hK => ?_  -- region 2
  try simp only [go_sem, List.map_cons, List.map_nil, ↓reduceIte, Nat.reduceEqDiff, Nat.reduceLT, Nat.reduceSub, Nat.reduceAdd, Nat.reduceMul, implies_true, true_and, and_true, cond_true, cond_false]
  iterate 14 (first | (refine And.intro ?_ ?_; · first | omega | assumption | (simp; done) | (intros; simp_all; done) | decide) | skip)
  refine callK_use Try.func24 rfl rfl rfl ((c_retain_Read s clock t vn b hb9 _ _)) ?_
  try simp only [go_sem, List.map_cons, List.map_nil, ↓reduceIte, Nat.reduceEqDiff, Nat.reduceLT, Nat.reduceSub, Nat.reduceAdd, Nat.reduceMul, implies_true, true_and, and_true, cond_true, cond_false]
  iterate 14 (first | (refine And.intro ?_ ?_; · first | omega | assumption | (simp; done) | (intros; simp_all; done) | decide) | skip)
  refine hK _ _ _ ?_
  clear hK K
  refine awp_reg zs [1, 4, 5, 6, 13, 14, 15, 16, 17, 18] fun K hK => ?_  -- region 3
  try simp only [go_sem, List.map_cons, List.map_nil, ↓reduceIte, Nat.reduceEqDiff, Nat.reduceLT, Nat.reduceSub, Nat.reduceAdd, Nat.reduceMul, implies_true, true_and, and_true, cond_true, cond_false]
  iterate 14 (first | (refine And.intro ?_ ?_; · first | omega | assumption | (simp; done) | (intros; simp_all; done) | decide) | skip)
  refine callK_use Try.func19 rfl rfl rfl ((c_retain_Vis s clock a ha _ _)) ?_
  try simp only [go_sem, List.map_cons, List.map_nil, ↓reduceIte, Nat.reduceEqDiff, Nat.reduceLT, Nat.reduceSub, Nat.reduceAdd, Nat.reduceMul, implies_true, true_and, and_true, cond_true, cond_false]
  iterate 14 (first | (refine And.intro ?_ ?_; · first | omega | assumption | (simp; done) | (intros; simp_all; done) | decide) | skip)
  refine hK _ _ _ ?_
  clear hK K
  refine awp_reg zs [1, 4, 5, 6, 13, 14, 15, 16, 17, 18, 19, 20] fun K hK => ?_  -- region 4
  try simp only [go_sem, List.map_cons, List.map_nil, ↓reduceIte, Nat.reduceEqDiff, Nat.reduceLT, Nat.reduceSub, Nat.reduceAdd, Nat.reduceMul, implies_true, true_and, and_true, cond_true, cond_false]
  iterate 14 (first | (refine And.intro ?_ ?_; · first | omega | assumption | (simp; done) | (intros; simp_all; done) | decide) | skip)
  refine callK_use Try.func19 rfl rfl rfl ((c_retain_Vis s clock b hb9 _ _)) ?_
  try simp only [go_sem, List.map_cons, List.map_nil, ↓reduceIte, Nat.reduceEqDiff, Nat.reduceLT, Nat.reduceSub, Nat.reduceAdd, Nat.reduceMul, implies_true, true_and, and_true, cond_true, cond_false]
  iterate 14 (first | (refine And.intro ?_ ?_; · first | omega | assumption | (simp; done) | (intros; simp_all; done) | decide) | skip)
  refine hK _ _ _ ?_
  clear hK K
  refine awp_reg zs [1, 5, 6, 13, 14, 15, 16, 17, 18, 19, 20, 21, 22] fun K hK => ?_  -- region 5
  try simp only [go_sem, List.map_cons, List.map_nil, ↓reduceIte, Nat.reduceEqDiff, Nat.reduceLT, Nat.reduceSub, Nat.reduceAdd, Nat.reduceMul, implies_true, true_and, and_true, cond_true, cond_false]
  iterate 14 (first | (refine And.intro ?_ ?_; · first | omega | assumption | (simp; done) | (intros; simp_all; done) | decide) | skip)
  refine callK_use Try.func40 rfl rfl rfl ((c_retain_Top s clock a ha _ _)) ?_
  try simp only [go_sem, List.map_cons, List.map_nil, ↓reduceIte, Nat.reduceEqDiff, Nat.reduceLT, Nat.reduceSub, Nat.reduceAdd, Nat.reduceMul, implies_true, true_and, and_true, cond_true, cond_false]
  iterate 14 (first | (refine And.intro ?_ ?_; · first | omega | assumption | (simp; done) | (intros; simp_all; done) | decide) | skip)
  refine hK _ _ _ ?_
  clear hK K
  refine awp_reg zs [13, 14, 15, 16, 17, 18, 19, 20, 21, 22, 23, 24] fun K hK => ?_  -- region 6
  try simp only [go_sem, List.map_cons, List.map_nil, ↓reduceIte, Nat.reduceEqDiff, Nat.reduceLT, Nat.reduceSub, Nat.reduceAdd, Nat.reduceMul, implies_true, true_and, and_true, cond_true, cond_false]
  iterate 14 (first | (refine And.intro ?_ ?_; · first | omega | assumption | (simp; done) | (intros; simp_all; done) | decide) | skip)
  refine callK_use Try.func40 rfl rfl rfl ((c_retain_Top s clock b hb9 _ _)) ?_
  try simp only [go_sem, List.map_cons, List.map_nil, ↓reduceIte, Nat.reduceEqDiff, Nat.reduceLT, Nat.reduceSub, Nat.reduceAdd, Nat.reduceMul, implies_true, true_and, and_true, cond_true, cond_false]
  iterate 14 (first | (refine And.intro ?_ ?_; · first | omega | assumption | (simp; done) | (intros; simp_all; done) | decide) | skip)
  refine hK _ _ _ ?_
  clear hK K
  refine awp_seq_k fun K1 hK1 => ?_
  refine awp_reg zs [13, 15, 17, 19, 21, 23, 95] fun K hK => ?_  -- region 7
  try simp only [go_sem, List.map_cons, List.map_nil, ↓reduceIte, Nat.reduceEqDiff, Nat.reduceLT, Nat.reduceSub, Nat.reduceAdd, Nat.reduceMul, implies_true, true_and, and_true, cond_true, cond_false]
  iterate 14 (first | (refine And.intro ?_ ?_; · first | omega | assumption | (simp; done) | (intros; simp_all; done) | decide) | skip)
  refine callK_use Try.func16 rfl rfl rfl ((by apply c_law_num <;> first | assumption | omega)) ?_
  try simp only [go_sem, List.map_cons, List.map_nil, ↓reduceIte, Nat.reduceEqDiff, Nat.reduceLT, Nat.reduceSub, Nat.reduceAdd, Nat.reduceMul, implies_true, true_and, and_true, cond_true, cond_false]
  iterate 14 (first | (refine And.intro ?_ ?_; · first | omega | assumption | (simp; done) | (intros; simp_all; done) | decide) | skip)
  refine callK_use Try.func16 rfl rfl rfl ((by apply c_law_num <;> first | assumption | omega)) ?_
  try simp only [go_sem, List.map_cons, List.map_nil, ↓reduceIte, Nat.reduceEqDiff, Nat.reduceLT, Nat.reduceSub, Nat.reduceAdd, Nat.reduceMul, implies_true, true_and, and_true, cond_true, cond_false]
  iterate 14 (first | (refine And.intro ?_ ?_; · first | omega | assumption | (simp; done) | (intros; simp_all; done) | decide) | skip)
  refine callG_use Try.func16 rfl rfl rfl (fun _ => (by apply c_law_num <;> first | assumption | omega)) ?_
  try simp only [go_sem, List.map_cons, List.map_nil, ↓reduceIte, Nat.reduceEqDiff, Nat.reduceLT, Nat.reduceSub, Nat.reduceAdd, Nat.reduceMul, implies_true, true_and, and_true, cond_true, cond_false]
  iterate 14 (first | (refine And.intro ?_ ?_; · first | omega | assumption | (simp; done) | (intros; simp_all; done) | decide) | skip)
  refine callG_use Try.func16 rfl rfl rfl (fun _ => (by apply c_law_num <;> first | assumption | omega)) ?_
  try simp only [go_sem, List.map_cons, List.map_nil, ↓reduceIte, Nat.reduceEqDiff, Nat.reduceLT, Nat.reduceSub, Nat.reduceAdd, Nat.reduceMul, implies_true, true_and, and_true, cond_true, cond_false]
  iterate 14 (first | (refine And.intro ?_ ?_; · first | omega | assumption | (simp; done) | (intros; simp_all; done) | decide) | skip)
  refine callG_use Try.func16 rfl rfl rfl (fun _ => (by apply c_law_num <;> first | assumption | omega)) ?_
  try simp only [go_sem, List.map_cons, List.map_nil, ↓reduceIte, Nat.reduceEqDiff, Nat.reduceLT, Nat.reduceSub, Nat.reduceAdd, Nat.reduceMul, implies_true, true_and, and_true, cond_true, cond_false]
  iterate 14 (first | (refine And.intro ?_ ?_; · first | omega | assumption | (simp; done) | (intros; simp_all; done) | decide) | skip)
  refine callG_use Try.func16 rfl rfl rfl (fun _ => (by apply c_law_num <;> first | assumption | omega)) ?_
  try simp only [go_sem, List.map_cons, List.map_nil, ↓reduceIte, Nat.reduceEqDiff, Nat.reduceLT, Nat.reduceSub, Nat.reduceAdd, Nat.reduceMul, implies_true, true_and, and_true, cond_true, cond_false]
  iterate 14 (first | (refine And.intro ?_ ?_; · first | omega | assumption | (simp; done) | (intros; simp_all; done) | decide) | skip)
  refine hK _ _ _ ?_
  clear hK K
  refine awp_cond (b := _) (by simp only [go_sem, List.map_cons, List.map_nil, ↓reduceIte, Nat.reduceEqDiff, Nat.reduceLT, Nat.reduceSub, Nat.reduceAdd, Nat.reduceMul, implies_true, true_and, and_true, cond_true, cond_false]; rfl) (fun hb => ?_) (fun hb => ?_)  -- t95
  · skip
    refine awp_reg zs [12] fun K hK => ?_  -- region 8
    try simp only [go_sem, List.map_cons, List.map_nil, ↓reduceIte, Nat.reduceEqDiff, Nat.reduceLT, Nat.reduceSub, Nat.reduceAdd, Nat.reduceMul, implies_true, true_and, and_true, cond_true, cond_false]
    iterate 14 (first | (refine And.intro ?_ ?_; · first | omega | assumption | (simp; done) | (intros; simp_all; done) | decide) | skip)
    refine hK _ _ _ ?_
    clear hK K
    refine awp_ret ?_
    try simp only [go_sem, List.map_cons, List.map_nil, ↓reduceIte, Nat.reduceEqDiff, Nat.reduceLT, Nat.reduceSub, Nat.reduceAdd, Nat.reduceMul, implies_true, true_and, and_true, cond_true, cond_false]
    refine ⟨_, rfl, ?_, Frz.eq ?_ trivial⟩
    · intro k hk; have h0 : k ≠ n := by omega
      simp [Heap.put, h0]
    · unfold agreeB; rw [hb]; rfl
  · skip
    refine awp_skip ?_
    try simp only [go_sem, List.map_cons, List.map_nil, ↓reduceIte, Nat.reduceEqDiff, Nat.reduceLT, Nat.reduceSub, Nat.reduceAdd, Nat.reduceMul, implies_true, true_and, and_true, cond_true, cond_false]
    refine hK1 _ _ _ ?_
    first | clear hK1 K1 | skip
    refine awp_reg zs [12] fun K hK => ?_  -- region 9
    try simp only [go_sem, List.map_cons, List.map_nil, ↓reduceIte, Nat.reduceEqDiff, Nat.reduceLT, Nat.reduceSub, Nat.reduceAdd, Nat.reduceMul, implies_true, true_and, and_true, cond_true, cond_false]
    iterate 14 (first | (refine And.intro ?_ ?_; · first | omega | assumption | (simp; done) | (intros; simp_all; done) | decide) | skip)
    refine callK_use Try.func18 rfl rfl rfl ((c_ref3_SameAll (readE s clock t vn a).1 (readE s clock t vn b).1 hr _ _)) ?_
    try simp only [go_sem, List.map_cons, List.map_nil, ↓reduceIte, Nat.reduceEqDiff, Nat.reduceLT, Nat.reduceSub, Nat.reduceAdd, Nat.reduceMul, implies_true, true_and, and_true, cond_true, cond_false]
    iterate 14 (first | (refine And.intro ?_ ?_; · first | omega | assumption | (simp; done) | (intros; simp_all; done) | decide) | skip)
    refine callG_use Try.func18 rfl rfl rfl (fun _ => (c_ref3_SameAll (visE s clock a).1 (visE s clock b).1 hv _ _)) ?_
    try simp only [go_sem, List.map_cons, List.map_nil, ↓reduceIte, Nat.reduceEqDiff, Nat.reduceLT, Nat.reduceSub, Nat.reduceAdd, Nat.reduceMul, implies_true, true_and, and_true, cond_true, cond_false]
    iterate 14 (first | (refine And.intro ?_ ?_; · first | omega | assumption | (simp; done) | (intros; simp_all; done) | decide) | skip)
    refine hK _ _ _ ?_
    clear hK K
    refine awp_ret ?_
    try simp only [go_sem, List.map_cons, List.map_nil, ↓reduceIte, Nat.reduceEqDiff, Nat.reduceLT, Nat.reduceSub, Nat.reduceAdd, Nat.reduceMul, implies_true, true_and, and_true, cond_true, cond_false]
    refine ⟨_, rfl, ?_, Frz.eq ?_ trivial⟩
    · intro k hk; have h0 : k ≠ n := by omega
      simp [Heap.put, h0]
    · unfold agreeB; rw [hb]; rfl

def earlyB (s : List Fml) (clock more : Int) (a b : List Ent) : Bool :=
  bif (bif (bif (bif (bif decide (clock < 0) then true else decide (more < 0)) then true else decide (1099511627776 < clock)) then true else decide (IntKind.i64.wrap (1099511627776 - clock) < more)) then true else !apartE a b) then true else !((visE s clock (a ++ b)).2 == 0)
def backX (v w : List Ent) (e : Ent) : Bool := bif (bif e.kind == 1 then !shownB v e else false) then shownB w e else false
def nbackB (s : List Fml) (clock more : Int) (a b : List Ent) : Bool :=
  bif earlyB s clock more a b then true
  else bif (bif (visE s clock a).2 != 0 then true else (visE s (IntKind.i64.wrap (clock + more)) (a ++ b)).2 != 0) then false
  else !(a.any fun e => backX (visE s clock a).1 (visE s (IntKind.i64.wrap (clock + more)) (a ++ b)).1 e)

set_option maxRecDepth 100000 in
set_option maxHeartbeats 1600000 in
theorem c_law_RetainNothingBack (s : List Fml) (clock more : Int) (a b : List Ent) (ha : a.length ≤ 10000000) (hb9 : b.length ≤ 10000000) (hfa : ∀ e ∈ a, e.fits) (hfb : ∀ e ∈ b, e.fits)
    (hv : (visE s clock a).1.length < 4611686018427387904) (hw : (visE s (IntKind.i64.wrap (clock + more)) (a ++ b)).1.length < 4611686018427387904) (H : Heap) (n : Nat) :
    Ret Try.prog 8 [schAV s, .int .i64 clock, .int .i64 more, entsAV a, entsAV b] H n (.bool (nbackB s clock more a b)) H n := by
  have hab : (a ++ b).length ≤ 100000000 := by simp; omega
  refine Ret.fin ?_
  refine acalls_of_awp Try.func8 rfl Try.ntmps8 (congrArg Array.toList Try.results8) (by simp) ?_
  simp only [go_sem]
  refine awp_reg zs [1, 2, 3, 4, 5] fun K hK => ?_  -- region 0
  try simp only [go_sem, List.map_cons, List.map_nil, ↓reduceIte, Nat.reduceEqDiff, Nat.reduceLT, Nat.reduceSub, Nat.reduceAdd, Nat.reduceMul, implies_true, true_and, and_true, cond_true, cond_false]
  iterate 14 (first | (refine And.intro ?_ ?_; · first | omega | assumption | (simp; done) | (intros; simp_all; done) | decide) | skip)
  refine hK _ _ _ ?_
  clear hK K
  refine awp_reg zs [1, 2, 3, 4, 5, 11] fun K hK => ?_  -- region 1
  try simp only [go_sem, List.map_cons, List.map_nil, ↓reduceIte, Nat.reduceEqDiff, Nat.reduceLT, Nat.reduceSub, Nat.reduceAdd, Nat.reduceMul, implies_true, true_and, and_true, cond_true, cond_false]
  iterate 14 (first | (refine And.intro ?_ ?_; · first | omega | assumption | (simp; done) | (intros; simp_all; done) | decide) | skip)
  refine callK_use Try.func11 rfl rfl rfl ((c_law_started _ _)) ?_
  try simp only [go_sem, List.map_cons, List.map_nil, ↓reduceIte, Nat.reduceEqDiff, Nat.reduceLT, Nat.reduceSub, Nat.reduceAdd, Nat.reduceMul, implies_true, true_and, and_true, cond_true, cond_false]
  iterate 14 (first | (refine And.intro ?_ ?_; · first | omega | assumption | (simp; done) | (intros; simp_all; done) | decide) | skip)
  refine hK _ _ _ ?_
  clear hK K
  refine awp_seq_k fun K1 hK1 => ?_
  refine awp_drw rfl zs [1, 2, 3, 4, 5, 11, 52] [.m, .q, .m, .m, .q, .q, .m, .m, .q, .q, .m, .m, .q, .q, .m, .m, .m, .q, .q, .q, .m, .m, .m, .c, .q, .q, .m, .q, .m, .m, .m, .c, .c, .q, .q] (by kernel_rfl) (fun _ _ _ _ _ h => h) fun K hK => ?_  -- region 2
  try simp only [go_sem, List.map_cons, List.map_nil, ↓reduceIte, Nat.reduceEqDiff, Nat.reduceLT, Nat.reduceSub, Nat.reduceAdd, Nat.reduceMul, implies_true, true_and, and_true, cond_true, cond_false]
  iterate 14 (first | (refine And.intro ?_ ?_; · first | omega | assumption | (simp; done) | (intros; simp_all; done) | decide) | skip)
  refine callQG_use Try.func12 rfl rfl rfl (fun _ n => (c_law_apart a b (by omega) (by omega) _ _)) ?_
  try simp only [go_sem, List.map_cons, List.map_nil, ↓reduceIte, Nat.reduceEqDiff, Nat.reduceLT, Nat.reduceSub, Nat.reduceAdd, Nat.reduceMul, implies_true, true_and, and_true, cond_true, cond_false]
  iterate 14 (first | (refine And.intro ?_ ?_; · first | omega | assumption | (simp; done) | (intros; simp_all; done) | decide) | skip)
  refine callQG_use Try.func14 rfl rfl rfl (fun _ n => (c_law_join a b (by omega) (by omega) hfa hfb _ _)) ?_
  try simp only [go_sem, List.map_cons, List.map_nil, ↓reduceIte, Nat.reduceEqDiff, Nat.reduceLT, Nat.reduceSub, Nat.reduceAdd, Nat.reduceMul, implies_true, true_and, and_true, cond_true, cond_false]
  iterate 14 (first | (refine And.intro ?_ ?_; · first | omega | assumption | (simp; done) | (intros; simp_all; done) | decide) | skip)
  refine callQG_use Try.func13 rfl rfl rfl (fun _ n => (c_law_sound s clock (a ++ b) hab _ _)) ?_
  try simp only [go_sem, List.map_cons, List.map_nil, ↓reduceIte, Nat.reduceEqDiff, Nat.reduceLT, Nat.reduceSub, Nat.reduceAdd, Nat.reduceMul, implies_true, true_and, and_true, cond_true, cond_false]
  iterate 14 (first | (refine And.intro ?_ ?_; · first | omega | assumption | (simp; done) | (intros; simp_all; done) | decide) | skip)
  refine hK _ _ _ ?_
  clear hK K
  refine awp_cond (b := _) (by simp only [go_sem, List.map_cons, List.map_nil, ↓reduceIte, Nat.reduceEqDiff, Nat.reduceLT, Nat.reduceSub, Nat.reduceAdd, Nat.reduceMul, implies_true, true_and, and_true, cond_true, cond_false]; rfl) (fun hb => ?_) (fun hb => ?_)  -- t52
  · skip
    have he : earlyB s clock more a b = true := hb
    have hq : nbackB s clock more a b = true := by unfold nbackB; rw [he, cond_true]
    refine awp_reg zs [10] fun K hK => ?_  -- region 3
    try simp only [go_sem, List.map_cons, List.map_nil, ↓reduceIte, Nat.reduceEqDiff, Nat.reduceLT, Nat.reduceSub, Nat.reduceAdd, Nat.reduceMul, implies_true, true_and, and_true, cond_true, cond_false]
    iterate 14 (first | (refine And.intro ?_ ?_; · first | omega | assumption | (simp; done) | (intros; simp_all; done) | decide) | skip)
    refine hK _ _ _ ?_
    clear hK K
    refine awp_ret ?_
    try simp only [go_sem, List.map_cons, List.map_nil, ↓reduceIte, Nat.reduceEqDiff, Nat.reduceLT, Nat.reduceSub, Nat.reduceAdd, Nat.reduceMul, implies_true, true_and, and_true, cond_true, cond_false]
    refine ⟨_, rfl, ?_, Frz.eq ?_ trivial⟩
    · intro k hk; have h0 : k ≠ n := by omega
      simp [Heap.put, h0]
    · first | (rw [hq]; done) | (rw [hq, ← hd, hx]; rfl) | (rw [hq, ← hd, hge]; simp)
  · skip
    have he : earlyB s clock more a b = false := hb
    refine awp_skip ?_
    try simp only [go_sem, List.map_cons, List.map_nil, ↓reduceIte, Nat.reduceEqDiff, Nat.reduceLT, Nat.reduceSub, Nat.reduceAdd, Nat.reduceMul, implies_true, true_and, and_true, cond_true, cond_false]
    refine hK1 _ _ _ ?_
    first | clear hK1 K1 | skip
    refine awp_reg zs [1, 2, 3, 4, 5, 12, 13] fun K hK => ?_  -- region 4
    try simp only [go_sem, List.map_cons, List.map_nil, ↓reduceIte, Nat.reduceEqDiff, Nat.reduceLT, Nat.reduceSub, Nat.reduceAdd, Nat.reduceMul, implies_true, true_and, and_true, cond_true, cond_false]
    iterate 14 (first | (refine And.intro ?_ ?_; · first | omega | assumption | (simp; done) | (intros; simp_all; done) | decide) | skip)
    refine callK_use Try.func19 rfl rfl rfl ((c_retain_Vis s clock a (by omega) _ _)) ?_
    try simp only [go_sem, List.map_cons, List.map_nil, ↓reduceIte, Nat.reduceEqDiff, Nat.reduceLT, Nat.reduceSub, Nat.reduceAdd, Nat.reduceMul, implies_true, true_and, and_true, cond_true, cond_false]
    iterate 14 (first | (refine And.intro ?_ ?_; · first | omega | assumption | (simp; done) | (intros; simp_all; done) | decide) | skip)
    refine hK _ _ _ ?_
    clear hK K
    refine awp_drw rfl zs [3, 12, 13, 14, 15] [.q, .m, .m, .q, .m, .m, .c, .c, .m, .q, .q, .q, .q] (by kernel_rfl) (fun _ _ _ _ _ h => h) fun K hK => ?_  -- region 5
    try simp only [go_sem, List.map_cons, List.map_nil, ↓reduceIte, Nat.reduceEqDiff, Nat.reduceLT, Nat.reduceSub, Nat.reduceAdd, Nat.reduceMul, implies_true, true_and, and_true, cond_true, cond_false]
    iterate 14 (first | (refine And.intro ?_ ?_; · first | omega | assumption | (simp; done) | (intros; simp_all; done) | decide) | skip)
    refine callQG_use Try.func14 rfl rfl rfl (fun _ n => (c_law_join a b (by omega) (by omega) hfa hfb _ _)) ?_
    try simp only [go_sem, List.map_cons, List.map_nil, ↓reduceIte, Nat.reduceEqDiff, Nat.reduceLT, Nat.reduceSub, Nat.reduceAdd, Nat.reduceMul, implies_true, true_and, and_true, cond_true, cond_false]
    iterate 14 (first | (refine And.intro ?_ ?_; · first | omega | assumption | (simp; done) | (intros; simp_all; done) | decide) | skip)
    refine callQG_use Try.func19 rfl rfl rfl (fun _ n => (c_retain_Vis s (IntKind.i64.wrap (clock + more)) (a ++ b) hab _ _)) ?_
    try simp only [go_sem, List.map_cons, List.map_nil, ↓reduceIte, Nat.reduceEqDiff, Nat.reduceLT, Nat.reduceSub, Nat.reduceAdd, Nat.reduceMul, implies_true, true_and, and_true, cond_true, cond_false]
    iterate 14 (first | (refine And.intro ?_ ?_; · first | omega | assumption | (simp; done) | (intros; simp_all; done) | decide) | skip)
    refine hK _ _ _ ?_
    clear hK K
    refine awp_seq_k fun K2 hK2 => ?_
    refine awp_reg zs [3, 12, 14, 79] fun K hK => ?_  -- region 6
    try simp only [go_sem, List.map_cons, List.map_nil, ↓reduceIte, Nat.reduceEqDiff, Nat.reduceLT, Nat.reduceSub, Nat.reduceAdd, Nat.reduceMul, implies_true, true_and, and_true, cond_true, cond_false]
    iterate 14 (first | (refine And.intro ?_ ?_; · first | omega | assumption | (simp; done) | (intros; simp_all; done) | decide) | skip)
    refine callK_use Try.func16 rfl rfl rfl ((by apply c_law_num <;> first | assumption | omega)) ?_
    try simp only [go_sem, List.map_cons, List.map_nil, ↓reduceIte, Nat.reduceEqDiff, Nat.reduceLT, Nat.reduceSub, Nat.reduceAdd, Nat.reduceMul, implies_true, true_and, and_true, cond_true, cond_false]
    iterate 14 (first | (refine And.intro ?_ ?_; · first | omega | assumption | (simp; done) | (intros; simp_all; done) | decide) | skip)
    refine callG_use Try.func16 rfl rfl rfl (fun _ => (by apply c_law_num <;> first | assumption | omega)) ?_
    try simp only [go_sem, List.map_cons, List.map_nil, ↓reduceIte, Nat.reduceEqDiff, Nat.reduceLT, Nat.reduceSub, Nat.reduceAdd, Nat.reduceMul, implies_true, true_and, and_true, cond_true, cond_false]
    iterate 14 (first | (refine And.intro ?_ ?_; · first | omega | assumption | (simp; done) | (intros; simp_all; done) | decide) | skip)
    refine hK _ _ _ ?_
    clear hK K
    refine awp_cond (b := _) (by simp only [go_sem, List.map_cons, List.map_nil, ↓reduceIte, Nat.reduceEqDiff, Nat.reduceLT, Nat.reduceSub, Nat.reduceAdd, Nat.reduceMul, implies_true, true_and, and_true, cond_true, cond_false]; rfl) (fun hb => ?_) (fun hb => ?_)  -- t79
    · skip
      have h2 : (bif (visE s clock a).2 != 0 then true else (visE s (IntKind.i64.wrap (clock + more)) (a ++ b)).2 != 0) = true := hb
      have hq : nbackB s clock more a b = false := by unfold nbackB; rw [he, h2, cond_false, cond_true]
      refine awp_reg zs [10] fun K hK => ?_  -- region 7
      try simp only [go_sem, List.map_cons, List.map_nil, ↓reduceIte, Nat.reduceEqDiff, Nat.reduceLT, Nat.reduceSub, Nat.reduceAdd, Nat.reduceMul, implies_true, true_and, and_true, cond_true, cond_false]
      iterate 14 (first | (refine And.intro ?_ ?_; · first | omega | assumption | (simp; done) | (intros; simp_all; done) | decide) | skip)
      refine hK _ _ _ ?_
      clear hK K
      refine awp_ret ?_
      try simp only [go_sem, List.map_cons, List.map_nil, ↓reduceIte, Nat.reduceEqDiff, Nat.reduceLT, Nat.reduceSub, Nat.reduceAdd, Nat.reduceMul, implies_true, true_and, and_true, cond_true, cond_false]
      refine ⟨_, rfl, ?_, Frz.eq ?_ trivial⟩
      · intro k hk; have h0 : k ≠ n := by omega
        simp [Heap.put, h0]
      · first | (rw [hq]; done) | (rw [hq, ← hd, hx]; rfl) | (rw [hq, ← hd, hge]; simp)
    · skip
      have h2 : (bif (visE s clock a).2 != 0 then true else (visE s (IntKind.i64.wrap (clock + more)) (a ++ b)).2 != 0) = false := hb
      have hq : nbackB s clock more a b = !(a.any fun e => backX (visE s clock a).1 (visE s (IntKind.i64.wrap (clock + more)) (a ++ b)).1 e) := by unfold nbackB; rw [he, h2]; rfl
      generalize (visE s clock a).1 = v at *
      generalize (visE s (IntKind.i64.wrap (clock + more)) (a ++ b)).1 = w at *
      refine awp_skip ?_
      try simp only [go_sem, List.map_cons, List.map_nil, ↓reduceIte, Nat.reduceEqDiff, Nat.reduceLT, Nat.reduceSub, Nat.reduceAdd, Nat.reduceMul, implies_true, true_and, and_true, cond_true, cond_false]
      refine hK2 _ _ _ ?_
      first | clear hK2 K2 | skip
      refine awp_seq_k fun K3 hK3 => ?_
      refine awp_reg zs [3, 12, 14, 16] fun K hK => ?_  -- region 8
      try simp only [go_sem, List.map_cons, List.map_nil, ↓reduceIte, Nat.reduceEqDiff, Nat.reduceLT, Nat.reduceSub, Nat.reduceAdd, Nat.reduceMul, implies_true, true_and, and_true, cond_true, cond_false]
      iterate 14 (first | (refine And.intro ?_ ?_; · first | omega | assumption | (simp; done) | (intros; simp_all; done) | decide) | skip)
      refine hK _ _ _ ?_
      clear hK K
      refine awp_block ?_
      -- loop 0: head [3, 12, 14, 16]
      refine awp_loop (fun T' H' n' => ∃ i : Nat, i ≤ a.length ∧ T' = tl [(3, .sl 7 (a.map entAV)), (12, .sl 7 (v.map entAV)), (14, .sl 7 (w.map entAV)), (16, .int .i64 i)] ∧ H' = H.put n (some (.arr 0 1 [schAV s])) ∧ n' = n + 1 ∧ (a.drop i).any (backX v w) = a.any (backX v w)) (fun T' _ _ => a.length - iv (T' 16)) ?_ ?_
      · skip
        exact ⟨0, Nat.zero_le _, rfl, rfl, rfl, rfl⟩
      intro T1 H1 n1
      rintro ⟨i, hi, rfl, rfl, rfl, hd⟩
      refine awp_seq_k fun K4 hK4 => ?_
      refine awp_reg zs [3, 12, 14, 16, 83] fun K hK => ?_  -- region 9
      try simp only [go_sem, List.map_cons, List.map_nil, ↓reduceIte, Nat.reduceEqDiff, Nat.reduceLT, Nat.reduceSub, Nat.reduceAdd, Nat.reduceMul, implies_true, true_and, and_true, cond_true, cond_false]
      iterate 14 (first | (refine And.intro ?_ ?_; · first | omega | assumption | (simp; done) | (intros; simp_all; done) | decide) | skip)
      refine hK _ _ _ ?_
      clear hK K
      refine awp_cond (b := _) (by simp only [go_sem, List.map_cons, List.map_nil, ↓reduceIte, Nat.reduceEqDiff, Nat.reduceLT, Nat.reduceSub, Nat.reduceAdd, Nat.reduceMul, implies_true, true_and, and_true, cond_true, cond_false]; rfl) (fun hb => ?_) (fun hb => ?_)  -- t83
      · skip
        have hlt : i < a.length := by simpa using hb
        have hn1 : nth (a.map entAV) i = entAV (a.getD i default) := nth_map entAV a i hlt
        rw [drop_cons a i hlt, List.any_cons] at hd
        generalize a.getD i default = x at *
        refine awp_skip ?_
        try simp only [go_sem, List.map_cons, List.map_nil, ↓reduceIte, Nat.reduceEqDiff, Nat.reduceLT, Nat.reduceSub, Nat.reduceAdd, Nat.reduceMul, implies_true, true_and, and_true, cond_true, cond_false]
        refine hK4 _ _ _ ?_
        first | clear hK4 K4 | skip
        refine awp_seq_k fun K5 hK5 => ?_
        refine awp_block ?_
        refine awp_reg zs [3, 12, 14, 16, 108] fun K hK => ?_  -- region 11
        try simp only [go_sem, List.map_cons, List.map_nil, ↓reduceIte, Nat.reduceEqDiff, Nat.reduceLT, Nat.reduceSub, Nat.reduceAdd, Nat.reduceMul, implies_true, true_and, and_true, cond_true, cond_false, Int.toNat_natCast, hn1]
        iterate 14 (first | (refine And.intro ?_ ?_; · first | (intro h9; omega) | omega | assumption | (simp; done) | (intros; simp_all; done) | decide) | skip)
        refine callG_use Try.func21 rfl rfl rfl (fun _ => (c_law_shown v x hv _ _)) ?_
        try simp only [go_sem, List.map_cons, List.map_nil, ↓reduceIte, Nat.reduceEqDiff, Nat.reduceLT, Nat.reduceSub, Nat.reduceAdd, Nat.reduceMul, implies_true, true_and, and_true, cond_true, cond_false, Int.toNat_natCast, hn1]
        iterate 14 (first | (refine And.intro ?_ ?_; · first | (intro h9; omega) | omega | assumption | (simp; done) | (intros; simp_all; done) | decide) | skip)
        refine callG_use Try.func21 rfl rfl rfl (fun _ => (c_law_shown w x hw _ _)) ?_
        try simp only [go_sem, List.map_cons, List.map_nil, ↓reduceIte, Nat.reduceEqDiff, Nat.reduceLT, Nat.reduceSub, Nat.reduceAdd, Nat.reduceMul, implies_true, true_and, and_true, cond_true, cond_false, Int.toNat_natCast, hn1]
        iterate 14 (first | (refine And.intro ?_ ?_; · first | (intro h9; omega) | omega | assumption | (simp; done) | (intros; simp_all; done) | decide) | skip)
        refine hK _ _ _ ?_
        clear hK K
        refine awp_cond (b := _) (by simp only [go_sem, List.map_cons, List.map_nil, ↓reduceIte, Nat.reduceEqDiff, Nat.reduceLT, Nat.reduceSub, Nat.reduceAdd, Nat.reduceMul, implies_true, true_and, and_true, cond_true, cond_false]; rfl) (fun hb => ?_) (fun hb => ?_)  -- t108
        · skip
          have hx : backX v w x = true := hb
          refine awp_reg zs [10] fun K hK => ?_  -- region 12
          try simp only [go_sem, List.map_cons, List.map_nil, ↓reduceIte, Nat.reduceEqDiff, Nat.reduceLT, Nat.reduceSub, Nat.reduceAdd, Nat.reduceMul, implies_true, true_and, and_true, cond_true, cond_false]
          iterate 14 (first | (refine And.intro ?_ ?_; · first | omega | assumption | (simp; done) | (intros; simp_all; done) | decide) | skip)
          refine hK _ _ _ ?_
          clear hK K
          refine awp_ret ?_
          try simp only [go_sem, List.map_cons, List.map_nil, ↓reduceIte, Nat.reduceEqDiff, Nat.reduceLT, Nat.reduceSub, Nat.reduceAdd, Nat.reduceMul, implies_true, true_and, and_true, cond_true, cond_false]
          refine ⟨_, rfl, ?_, Frz.eq ?_ trivial⟩
          · intro k hk; have h0 : k ≠ n := by omega
            simp [Heap.put, h0]
          · first | (rw [hq]; done) | (rw [hq, ← hd, hx]; rfl) | (rw [hq, ← hd, hge]; simp)
        · skip
          have hx : backX v w x = false := hb
          refine awp_skip ?_
          try simp only [go_sem, List.map_cons, List.map_nil, ↓reduceIte, Nat.reduceEqDiff, Nat.reduceLT, Nat.reduceSub, Nat.reduceAdd, Nat.reduceMul, implies_true, true_and, and_true, cond_true, cond_false]
          refine hK5 _ _ _ ?_
          first | clear hK5 K5 | skip
          refine awp_reg1 zs [3, 12, 14, 16] fun K hK => ?_  -- region 10
          try simp only [go_sem, List.map_cons, List.map_nil, ↓reduceIte, Nat.reduceEqDiff, Nat.reduceLT, Nat.reduceSub, Nat.reduceAdd, Nat.reduceMul, implies_true, true_and, and_true, cond_true, cond_false]
          iterate 14 (first | (refine And.intro ?_ ?_; · first | omega | assumption | (simp; done) | (intros; simp_all; done) | decide) | skip)
          refine hK _ _ _ ?_
          clear hK K
          try simp only [go_sem, List.map_cons, List.map_nil, ↓reduceIte, Nat.reduceEqDiff, Nat.reduceLT, Nat.reduceSub, Nat.reduceAdd, Nat.reduceMul, implies_true, true_and, and_true, cond_true, cond_false]
          refine ⟨⟨i + 1, by omega, by rw [w1 (by omega)], by rw [← hd, hx]; rfl⟩, by rw [w1 (by omega)]; simp; omega⟩
      · skip
        have hge : i = a.length := by simp at hb; omega
        refine awp_exit ?_
        try simp only [go_sem, List.map_cons, List.map_nil, ↓reduceIte, Nat.reduceEqDiff, Nat.reduceLT, Nat.reduceSub, Nat.reduceAdd, Nat.reduceMul, implies_true, true_and, and_true, cond_true, cond_false]
        refine hK3 _ _ _ ?_
        first | clear hK3 K3 | skip
        refine awp_reg zs [10] fun K hK => ?_  -- region 13
        try simp only [go_sem, List.map_cons, List.map_nil, ↓reduceIte, Nat.reduceEqDiff, Nat.reduceLT, Nat.reduceSub, Nat.reduceAdd, Nat.reduceMul, implies_true, true_and, and_true, cond_true, cond_false]
        iterate 14 (first | (refine And.intro ?_ ?_; · first | omega | assumption | (simp; done) | (intros; simp_all; done) | decide) | skip)
        refine hK _ _ _ ?_
        clear hK K
        refine awp_ret ?_
        try simp only [go_sem, List.map_cons, List.map_nil, ↓reduceIte, Nat.reduceEqDiff, Nat.reduceLT, Nat.reduceSub, Nat.reduceAdd, Nat.reduceMul, implies_true, true_and, and_true, cond_true, cond_false]
        refine ⟨_, rfl, ?_, Frz.eq ?_ trivial⟩
        · intro k hk; have h0 : k ≠ n := by omega
          simp [Heap.put, h0]
        · first | (rw [hq]; done) | (rw [hq, ← hd, hx]; rfl) | (rw [hq, ← hd, hge]; simp)

def unseenB (s : List Fml) (clock more t n : Int) (a b : List Ent) : Bool :=
  bif earlyB s clock more a b then true
  else bif (squashE s clock false 0 a).2 == 0 then agreeB s (IntKind.i64.wrap (clock + more)) t n (a ++ b) ((squashE s clock false 0 a).1 ++ b) else false

set_option maxRecDepth 100000 in
set_option maxHeartbeats 1600000 in
theorem c_law_RetainNeverSeen (s : List Fml) (clock more t vn : Int) (a b : List Ent) (ha : a.length ≤ 10000000) (hb9 : b.length ≤ 10000000) (hfa : ∀ e ∈ a, e.fits) (hfb : ∀ e ∈ b, e.fits)
    (hr : (readE s (IntKind.i64.wrap (clock + more)) t vn (a ++ b)).1.length < 4611686018427387904) (hv : (visE s (IntKind.i64.wrap (clock + more)) (a ++ b)).1.length < 4611686018427387904) (H : Heap) (n : Nat) :
    Ret Try.prog 3 [schAV s, .int .i64 clock, .int .i64 more, .int .i64 t, .int .i64 vn, entsAV a, entsAV b] H n (.bool (unseenB s clock more t vn a b)) H n := by
  have hab : (a ++ b).length ≤ 100000000 := by simp; omega
  have hsl := squashE_length s clock false 0 a
  have hlb : ((squashE s clock false 0 a).1 ++ b).length ≤ 100000000 := by simp; omega
  refine Ret.fin ?_
  refine acalls_of_awp Try.func3 rfl Try.ntmps3 (congrArg Array.toList Try.results3) (by simp) ?_
  simp only [go_sem]
  refine awp_reg zs [1, 2, 3, 4, 5, 6, 7] fun K hK => ?_  -- region 0
  try simp only [go_sem, List.map_cons, List.map_nil, ↓reduceIte, Nat.reduceEqDiff, Nat.reduceLT, Nat.reduceSub, Nat.reduceAdd, Nat.reduceMul, implies_true, true_and, and_true, cond_true, cond_false]
  iterate 14 (first | (refine And.intro ?_ ?_; · first | omega | assumption | (simp; done) | (intros; simp_all; done) | decide) | skip)
  refine hK _ _ _ ?_
  clear hK K
  refine awp_reg zs [1, 2, 3, 4, 5, 6, 7, 15] fun K hK => ?_  -- region 1
  try simp only [go_sem, List.map_cons, List.map_nil, ↓reduceIte, Nat.reduceEqDiff, Nat.reduceLT, Nat.reduceSub, Nat.reduceAdd, Nat.reduceMul, implies_true, true_and, and_true, cond_true, cond_false]
  iterate 14 (first | (refine And.intro ?_ ?_; · first | omega | assumption | (simp; done) | (intros; simp_all; done) | decide) | skip)
  refine callK_use Try.func11 rfl rfl rfl ((c_law_started _ _)) ?_
  try simp only [go_sem, List.map_cons, List.map_nil, ↓reduceIte, Nat.reduceEqDiff, Nat.reduceLT, Nat.reduceSub, Nat.reduceAdd, Nat.reduceMul, implies_true, true_and, and_true, cond_true, cond_false]
  iterate 14 (first | (refine And.intro ?_ ?_; · first | omega | assumption | (simp; done) | (intros; simp_all; done) | decide) | skip)
  refine hK _ _ _ ?_
  clear hK K
  refine awp_seq_k fun K1 hK1 => ?_
  refine awp_drw rfl zs [1, 2, 3, 4, 5, 6, 7, 15, 53] [.m, .q, .m, .m, .q, .q, .m, .m, .q, .q, .m, .m, .q, .q, .m, .m, .m, .q, .q, .q, .m, .m, .m, .c, .q, .q, .m, .q, .m, .m, .m, .c, .c, .q, .q] (by kernel_rfl) (fun _ _ _ _ _ h => h) fun K hK => ?_  -- region 2
  try simp only [go_sem, List.map_cons, List.map_nil, ↓reduceIte, Nat.reduceEqDiff, Nat.reduceLT, Nat.reduceSub, Nat.reduceAdd, Nat.reduceMul, implies_true, true_and, and_true, cond_true, cond_false]
  iterate 14 (first | (refine And.intro ?_ ?_; · first | omega | assumption | (simp; done) | (intros; simp_all; done) | decide) | skip)
  refine callQG_use Try.func12 rfl rfl rfl (fun _ n => (c_law_apart a b (by omega) (by omega) _ _)) ?_
  try simp only [go_sem, List.map_cons, List.map_nil, ↓reduceIte, Nat.reduceEqDiff, Nat.reduceLT, Nat.reduceSub, Nat.reduceAdd, Nat.reduceMul, implies_true, true_and, and_true, cond_true, cond_false]
  iterate 14 (first | (refine And.intro ?_ ?_; · first | omega | assumption | (simp; done) | (intros; simp_all; done) | decide) | skip)
  refine callQG_use Try.func14 rfl rfl rfl (fun _ n => (c_law_join a b (by omega) (by omega) hfa hfb _ _)) ?_
  try simp only [go_sem, List.map_cons, List.map_nil, ↓reduceIte, Nat.reduceEqDiff, Nat.reduceLT, Nat.reduceSub, Nat.reduceAdd, Nat.reduceMul, implies_true, true_and, and_true, cond_true, cond_false]
  iterate 14 (first | (refine And.intro ?_ ?_; · first | omega | assumption | (simp; done) | (intros; simp_all; done) | decide) | skip)
  refine callQG_use Try.func13 rfl rfl rfl (fun _ n => (c_law_sound s clock (a ++ b) hab _ _)) ?_
  try simp only [go_sem, List.map_cons, List.map_nil, ↓reduceIte, Nat.reduceEqDiff, Nat.reduceLT, Nat.reduceSub, Nat.reduceAdd, Nat.reduceMul, implies_true, true_and, and_true, cond_true, cond_false]
  iterate 14 (first | (refine And.intro ?_ ?_; · first | omega | assumption | (simp; done) | (intros; simp_all; done) | decide) | skip)
  refine hK _ _ _ ?_
  clear hK K
  refine awp_cond (b := _) (by simp only [go_sem, List.map_cons, List.map_nil, ↓reduceIte, Nat.reduceEqDiff, Nat.reduceLT, Nat.reduceSub, Nat.reduceAdd, Nat.reduceMul, implies_true, true_and, and_true, cond_true, cond_false]; rfl) (fun hb => ?_) (fun hb => ?_)  -- t53
  · skip
    have he : earlyB s clock more a b = true := hb
    have hq : unseenB s clock more t vn a b = true := by unfold unseenB; rw [he, cond_true]
    refine awp_reg zs [14] fun K hK => ?_  -- region 3
    try simp only [go_sem, List.map_cons, List.map_nil, ↓reduceIte, Nat.reduceEqDiff, Nat.reduceLT, Nat.reduceSub, Nat.reduceAdd, Nat.reduceMul, implies_true, true_and, and_true, cond_true, cond_false]
    iterate 14 (first | (refine And.intro ?_ ?_; · first | omega | assumption | (simp; done) | (intros; simp_all; done) | decide) | skip)
    refine hK _ _ _ ?_
    clear hK K
    refine awp_ret ?_
    try simp only [go_sem, List.map_cons, List.map_nil, ↓reduceIte, Nat.reduceEqDiff, Nat.reduceLT, Nat.reduceSub, Nat.reduceAdd, Nat.reduceMul, implies_true, true_and, and_true, cond_true, cond_false]
    refine ⟨_, rfl, ?_, Frz.eq ?_ trivial⟩
    · intro k hk; have h0 : k ≠ n := by omega
      simp [Heap.put, h0]
    · rw [hq]
  · skip
    have he : earlyB s clock more a b = false := hb
    have hq : unseenB s clock more t vn a b = bif (squashE s clock false 0 a).2 == 0 then agreeB s (IntKind.i64.wrap (clock + more)) t vn (a ++ b) ((squashE s clock false 0 a).1 ++ b) else false := by unfold unseenB; rw [he, cond_false]
    refine awp_skip ?_
    try simp only [go_sem, List.map_cons, List.map_nil, ↓reduceIte, Nat.reduceEqDiff, Nat.reduceLT, Nat.reduceSub, Nat.reduceAdd, Nat.reduceMul, implies_true, true_and, and_true, cond_true, cond_false]
    refine hK1 _ _ _ ?_
    first | clear hK1 K1 | skip
    refine awp_reg zs [1, 2, 3, 4, 5, 6, 7, 16, 17] fun K hK => ?_  -- region 4
    try simp only [go_sem, List.map_cons, List.map_nil, ↓reduceIte, Nat.reduceEqDiff, Nat.reduceLT, Nat.reduceSub, Nat.reduceAdd, Nat.reduceMul, implies_true, true_and, and_true, cond_true, cond_false]
    iterate 14 (first | (refine And.intro ?_ ?_; · first | omega | assumption | (simp; done) | (intros; simp_all; done) | decide) | skip)
    refine callK_use Try.func15 rfl rfl rfl ((c_retain_Squash s clock 0 false a (by omega) _ _)) ?_
    try simp only [go_sem, List.map_cons, List.map_nil, ↓reduceIte, Nat.reduceEqDiff, Nat.reduceLT, Nat.reduceSub, Nat.reduceAdd, Nat.reduceMul, implies_true, true_and, and_true, cond_true, cond_false]
    iterate 14 (first | (refine And.intro ?_ ?_; · first | omega | assumption | (simp; done) | (intros; simp_all; done) | decide) | skip)
    refine hK _ _ _ ?_
    clear hK K
    refine awp_drw rfl zs [14] [.m, .c, .q, .m, .q, .m, .m, .q, .m, .m, .m, .m, .c, .m, .m, .c, .c, .q, .q] (by kernel_rfl) (fun _ _ _ _ _ h => h) fun K hK => ?_  -- region 5
    try simp only [go_sem, List.map_cons, List.map_nil, ↓reduceIte, Nat.reduceEqDiff, Nat.reduceLT, Nat.reduceSub, Nat.reduceAdd, Nat.reduceMul, implies_true, true_and, and_true, cond_true, cond_false]
    iterate 14 (first | (refine And.intro ?_ ?_; · first | omega | assumption | (simp; done) | (intros; simp_all; done) | decide) | skip)
    refine callQG_use Try.func16 rfl rfl rfl (fun _ n => (by apply c_law_num <;> first | assumption | omega)) ?_
    try simp only [go_sem, List.map_cons, List.map_nil, ↓reduceIte, Nat.reduceEqDiff, Nat.reduceLT, Nat.reduceSub, Nat.reduceAdd, Nat.reduceMul, implies_true, true_and, and_true, cond_true, cond_false]
    iterate 14 (first | (refine And.intro ?_ ?_; · first | omega | assumption | (simp; done) | (intros; simp_all; done) | decide) | skip)
    refine callQG_use Try.func14 rfl rfl rfl (fun _ n => (c_law_join a b (by omega) (by omega) hfa hfb _ _)) ?_
    try simp only [go_sem, List.map_cons, List.map_nil, ↓reduceIte, Nat.reduceEqDiff, Nat.reduceLT, Nat.reduceSub, Nat.reduceAdd, Nat.reduceMul, implies_true, true_and, and_true, cond_true, cond_false]
    iterate 14 (first | (refine And.intro ?_ ?_; · first | omega | assumption | (simp; done) | (intros; simp_all; done) | decide) | skip)
    refine callQG_use Try.func14 rfl rfl rfl (fun _ n => (c_law_join (squashE s clock false 0 a).1 b (by omega) (by omega) (squashE_fits s clock 0 false a) hfb _ _)) ?_
    try simp only [go_sem, List.map_cons, List.map_nil, ↓reduceIte, Nat.reduceEqDiff, Nat.reduceLT, Nat.reduceSub, Nat.reduceAdd, Nat.reduceMul, implies_true, true_and, and_true, cond_true, cond_false]
    iterate 14 (first | (refine And.intro ?_ ?_; · first | omega | assumption | (simp; done) | (intros; simp_all; done) | decide) | skip)
    refine callQG_use Try.func17 rfl rfl rfl (fun _ n => (c_law_agree s (IntKind.i64.wrap (clock + more)) t vn (a ++ b) ((squashE s clock false 0 a).1 ++ b) hab hlb hr hv _ _)) ?_
    try simp only [go_sem, List.map_cons, List.map_nil, ↓reduceIte, Nat.reduceEqDiff, Nat.reduceLT, Nat.reduceSub, Nat.reduceAdd, Nat.reduceMul, implies_true, true_and, and_true, cond_true, cond_false]
    iterate 14 (first | (refine And.intro ?_ ?_; · first | omega | assumption | (simp; done) | (intros; simp_all; done) | decide) | skip)
    refine hK _ _ _ ?_
    clear hK K
    refine awp_ret ?_
    try simp only [go_sem, List.map_cons, List.map_nil, ↓reduceIte, Nat.reduceEqDiff, Nat.reduceLT, Nat.reduceSub, Nat.reduceAdd, Nat.reduceMul, implies_true, true_and, and_true, cond_true, cond_false]
    refine ⟨_, rfl, ?_, Frz.eq ?_ trivial⟩
    · intro k hk; have h0 : k ≠ n := by omega
      simp [Heap.put, h0]
    · rw [hq]

def earlyM (s : List Fml) (clock more low : Int) (a b : List Ent) : Bool :=
  bif (bif (bif (bif (bif (bif decide (clock < 0) then true else decide (more < 0)) then true else decide (1099511627776 < clock)) then true else decide (IntKind.i64.wrap (1099511627776 - clock) < more)) then true else decide (low < 0)) then true else decide (1099511627776 < low)) then true else !((visE s clock (a ++ b)).2 == 0)
/-- is some entry behind not newer, or not above low? -/
def olderX (low : Int) (a : List Ent) (e : Ent) : Bool := decide (e.ts ≤ low) || a.any fun x => decide (e.seq ≤ x.seq)
def munseenB (s : List Fml) (clock more t n low : Int) (a b : List Ent) : Bool :=
  bif earlyM s clock more low a b then true
  else bif b.any (olderX low a) then true
  else bif (squashE s clock true low a).2 == 0 then agreeB s (IntKind.i64.wrap (clock + more)) t n (a ++ b) ((squashE s clock true low a).1 ++ b) else false

set_option maxRecDepth 100000 in
set_option maxHeartbeats 3200000 in
theorem c_law_RetainMajorUnseen (s : List Fml) (clock more t vn low : Int) (a b : List Ent) (ha : a.length ≤ 10000000) (hb9 : b.length ≤ 10000000) (hfa : ∀ e ∈ a, e.fits) (hfb : ∀ e ∈ b, e.fits)
    (hr : (readE s (IntKind.i64.wrap (clock + more)) t vn (a ++ b)).1.length < 4611686018427387904) (hv : (visE s (IntKind.i64.wrap (clock + more)) (a ++ b)).1.length < 4611686018427387904) (H : Heap) (n : Nat) :
    Ret Try.prog 4 [schAV s, .int .i64 clock, .int .i64 more, .int .i64 t, .int .i64 vn, .int .i64 low, entsAV a, entsAV b] H n (.bool (munseenB s clock more t vn low a b)) H n := by
  have hab : (a ++ b).length ≤ 100000000 := by simp; omega
  have hsl := squashE_length s clock true low a
  have hlb : ((squashE s clock true low a).1 ++ b).length ≤ 100000000 := by simp; omega
  refine Ret.fin ?_
  refine acalls_of_awp Try.func4 rfl Try.ntmps4 (congrArg Array.toList Try.results4) (by simp) ?_
  simp only [go_sem]
  refine awp_reg zs [1, 2, 3, 4, 5, 6, 7, 8] fun K hK => ?_  -- region 0
  try simp only [go_sem, List.map_cons, List.map_nil, ↓reduceIte, Nat.reduceEqDiff, Nat.reduceLT, Nat.reduceSub, Nat.reduceAdd, Nat.reduceMul, implies_true, true_and, and_true, cond_true, cond_false]
  iterate 14 (first | (refine And.intro ?_ ?_; · first | omega | assumption | (simp; done) | (intros; simp_all; done) | decide) | skip)
  refine hK _ _ _ ?_
  clear hK K
  refine awp_reg zs [1, 2, 3, 4, 5, 6, 7, 8, 17] fun K hK => ?_  -- region 1
  try simp only [go_sem, List.map_cons, List.map_nil, ↓reduceIte, Nat.reduceEqDiff, Nat.reduceLT, Nat.reduceSub, Nat.reduceAdd, Nat.reduceMul, implies_true, true_and, and_true, cond_true, cond_false]
  iterate 14 (first | (refine And.intro ?_ ?_; · first | omega | assumption | (simp; done) | (intros; simp_all; done) | decide) | skip)
  refine callK_use Try.func11 rfl rfl rfl ((c_law_started _ _)) ?_
  try simp only [go_sem, List.map_cons, List.map_nil, ↓reduceIte, Nat.reduceEqDiff, Nat.reduceLT, Nat.reduceSub, Nat.reduceAdd, Nat.reduceMul, implies_true, true_and, and_true, cond_true, cond_false]
  iterate 14 (first | (refine And.intro ?_ ?_; · first | omega | assumption | (simp; done) | (intros; simp_all; done) | decide) | skip)
  refine hK _ _ _ ?_
  clear hK K
  refine awp_seq_k fun K1 hK1 => ?_
  refine awp_drw rfl zs [1, 2, 3, 4, 5, 6, 7, 8, 17, 59] [.m, .q, .m, .m, .q, .q, .m, .m, .q, .q, .m, .m, .q, .q, .m, .m, .m, .q, .q, .q, .m, .m, .q, .q, .m, .m, .q, .q, .m, .q, .m, .m, .m, .c, .c, .q, .q] (by kernel_rfl) (fun _ _ _ _ _ h => h) fun K hK => ?_  -- region 2
  try simp only [go_sem, List.map_cons, List.map_nil, ↓reduceIte, Nat.reduceEqDiff, Nat.reduceLT, Nat.reduceSub, Nat.reduceAdd, Nat.reduceMul, implies_true, true_and, and_true, cond_true, cond_false]
  iterate 14 (first | (refine And.intro ?_ ?_; · first | omega | assumption | (simp; done) | (intros; simp_all; done) | decide) | skip)
  refine callQG_use Try.func14 rfl rfl rfl (fun _ n => (c_law_join a b (by omega) (by omega) hfa hfb _ _)) ?_
  try simp only [go_sem, List.map_cons, List.map_nil, ↓reduceIte, Nat.reduceEqDiff, Nat.reduceLT, Nat.reduceSub, Nat.reduceAdd, Nat.reduceMul, implies_true, true_and, and_true, cond_true, cond_false]
  iterate 14 (first | (refine And.intro ?_ ?_; · first | omega | assumption | (simp; done) | (intros; simp_all; done) | decide) | skip)
  refine callQG_use Try.func13 rfl rfl rfl (fun _ n => (c_law_sound s clock (a ++ b) hab _ _)) ?_
  try simp only [go_sem, List.map_cons, List.map_nil, ↓reduceIte, Nat.reduceEqDiff, Nat.reduceLT, Nat.reduceSub, Nat.reduceAdd, Nat.reduceMul, implies_true, true_and, and_true, cond_true, cond_false]
  iterate 14 (first | (refine And.intro ?_ ?_; · first | omega | assumption | (simp; done) | (intros; simp_all; done) | decide) | skip)
  refine hK _ _ _ ?_
  clear hK K
  refine awp_cond (b := _) (by simp only [go_sem, List.map_cons, List.map_nil, ↓reduceIte, Nat.reduceEqDiff, Nat.reduceLT, Nat.reduceSub, Nat.reduceAdd, Nat.reduceMul, implies_true, true_and, and_true, cond_true, cond_false]; rfl) (fun hb => ?_) (fun hb => ?_)  -- t59
  · skip
    have he : earlyM s clock more low a b = true := hb
    have hq : munseenB s clock more t vn low a b = true := by unfold munseenB; rw [he, cond_true]
    refine awp_reg zs [16] fun K hK => ?_  -- region 3
    try simp only [go_sem, List.map_cons, List.map_nil, ↓reduceIte, Nat.reduceEqDiff, Nat.reduceLT, Nat.reduceSub, Nat.reduceAdd, Nat.reduceMul, implies_true, true_and, and_true, cond_true, cond_false]
    iterate 14 (first | (refine And.intro ?_ ?_; · first | omega | assumption | (simp; done) | (intros; simp_all; done) | decide) | skip)
    refine hK _ _ _ ?_
    clear hK K
    refine awp_ret ?_
    try simp only [go_sem, List.map_cons, List.map_nil, ↓reduceIte, Nat.reduceEqDiff, Nat.reduceLT, Nat.reduceSub, Nat.reduceAdd, Nat.reduceMul, implies_true, true_and, and_true, cond_true, cond_false]
    refine ⟨_, rfl, ?_, Frz.eq ?_ trivial⟩
    · intro k hk; have h0 : k ≠ n := by omega
      simp [Heap.put, h0]
    · rw [hq]
  · skip
    have he : earlyM s clock more low a b = false := hb
    refine awp_skip ?_
    try simp only [go_sem, List.map_cons, List.map_nil, ↓reduceIte, Nat.reduceEqDiff, Nat.reduceLT, Nat.reduceSub, Nat.reduceAdd, Nat.reduceMul, implies_true, true_and, and_true, cond_true, cond_false]
    refine hK1 _ _ _ ?_
    first | clear hK1 K1 | skip
    refine awp_seq_k fun K2 hK2 => ?_
    refine awp_reg zs [1, 2, 3, 4, 5, 6, 7, 8, 18] fun K hK => ?_  -- region 4
    try simp only [go_sem, List.map_cons, List.map_nil, ↓reduceIte, Nat.reduceEqDiff, Nat.reduceLT, Nat.reduceSub, Nat.reduceAdd, Nat.reduceMul, implies_true, true_and, and_true, cond_true, cond_false]
    iterate 14 (first | (refine And.intro ?_ ?_; · first | omega | assumption | (simp; done) | (intros; simp_all; done) | decide) | skip)
    refine hK _ _ _ ?_
    clear hK K
    refine awp_block ?_
    -- loop 0: head [1, 2, 3, 4, 5, 6, 7, 8, 18]
    refine awp_loop (fun T' H' n' => ∃ i : Nat, i ≤ b.length ∧ T' = tl [(1, .int .i64 clock), (2, .int .i64 more), (3, .int .i64 t), (4, .int .i64 vn), (5, .int .i64 low), (6, .sl 7 (a.map entAV)), (7, .sl 7 (b.map entAV)), (8, .loc n 0 0 0 []), (18, .int .i64 i)] ∧ H' = H.put n (some (.arr 0 1 [schAV s])) ∧ n' = n + 1 ∧ (b.drop i).any (olderX low a) = b.any (olderX low a)) (fun T' _ _ => b.length - iv (T' 18)) ?_ ?_
    · skip
      exact ⟨0, Nat.zero_le _, rfl, rfl, rfl, rfl⟩
    intro T1 H1 n1
    rintro ⟨i, hi, rfl, rfl, rfl, hd⟩
    refine awp_seq_k fun K3 hK3 => ?_
    refine awp_reg zs [1, 2, 3, 4, 5, 6, 7, 8, 18, 64] fun K hK => ?_  -- region 5
    try simp only [go_sem, List.map_cons, List.map_nil, ↓reduceIte, Nat.reduceEqDiff, Nat.reduceLT, Nat.reduceSub, Nat.reduceAdd, Nat.reduceMul, implies_true, true_and, and_true, cond_true, cond_false]
    iterate 14 (first | (refine And.intro ?_ ?_; · first | omega | assumption | (simp; done) | (intros; simp_all; done) | decide) | skip)
    refine hK _ _ _ ?_
    clear hK K
    refine awp_cond (b := _) (by simp only [go_sem, List.map_cons, List.map_nil, ↓reduceIte, Nat.reduceEqDiff, Nat.reduceLT, Nat.reduceSub, Nat.reduceAdd, Nat.reduceMul, implies_true, true_and, and_true, cond_true, cond_false]; rfl) (fun hb => ?_) (fun hb => ?_)  -- t64
    · skip
      have hlt : i < b.length := by simpa using hb
      have hn1 : nth (b.map entAV) i = entAV (b.getD i default) := nth_map entAV b i hlt
      rw [drop_cons b i hlt, List.any_cons] at hd
      generalize b.getD i default = y at *
      refine awp_skip ?_
      try simp only [go_sem, List.map_cons, List.map_nil, ↓reduceIte, Nat.reduceEqDiff, Nat.reduceLT, Nat.reduceSub, Nat.reduceAdd, Nat.reduceMul, implies_true, true_and, and_true, cond_true, cond_false]
      refine hK3 _ _ _ ?_
      first | clear hK3 K3 | skip
      refine awp_seq_k fun K4 hK4 => ?_
      refine awp_block ?_
      refine awp_seq_k fun K5 hK5 => ?_
      refine awp_reg zs [1, 2, 3, 4, 5, 6, 7, 8, 18, 73] fun K hK => ?_  -- region 7
      try simp only [go_sem, List.map_cons, List.map_nil, ↓reduceIte, Nat.reduceEqDiff, Nat.reduceLT, Nat.reduceSub, Nat.reduceAdd, Nat.reduceMul, implies_true, true_and, and_true, cond_true, cond_false, Int.toNat_natCast, hn1]
      iterate 14 (first | (refine And.intro ?_ ?_; · first | omega | assumption | (simp; done) | (intros; simp_all; done) | decide) | skip)
      refine hK _ _ _ ?_
      clear hK K
      refine awp_cond (b := _) (by simp only [go_sem, List.map_cons, List.map_nil, ↓reduceIte, Nat.reduceEqDiff, Nat.reduceLT, Nat.reduceSub, Nat.reduceAdd, Nat.reduceMul, implies_true, true_and, and_true, cond_true, cond_false]; rfl) (fun hb => ?_) (fun hb => ?_)  -- t73
      · skip
        have hy : olderX low a y = true := by unfold olderX; rw [hb]; rfl
        have hq : munseenB s clock more t vn low a b = true := by unfold munseenB; rw [he, cond_false, ← hd, hy]; rfl
        refine awp_reg zs [16] fun K hK => ?_  -- region 8
        try simp only [go_sem, List.map_cons, List.map_nil, ↓reduceIte, Nat.reduceEqDiff, Nat.reduceLT, Nat.reduceSub, Nat.reduceAdd, Nat.reduceMul, implies_true, true_and, and_true, cond_true, cond_false]
        iterate 14 (first | (refine And.intro ?_ ?_; · first | omega | assumption | (simp; done) | (intros; simp_all; done) | decide) | skip)
        refine hK _ _ _ ?_
        clear hK K
        refine awp_ret ?_
        try simp only [go_sem, List.map_cons, List.map_nil, ↓reduceIte, Nat.reduceEqDiff, Nat.reduceLT, Nat.reduceSub, Nat.reduceAdd, Nat.reduceMul, implies_true, true_and, and_true, cond_true, cond_false]
        refine ⟨_, rfl, ?_, Frz.eq ?_ trivial⟩
        · intro k hk; have h0 : k ≠ n := by omega
          simp [Heap.put, h0]
        · rw [hq]
      · skip
        have hy1 : decide (y.ts ≤ low) = false := hb
        refine awp_skip ?_
        try simp only [go_sem, List.map_cons, List.map_nil, ↓reduceIte, Nat.reduceEqDiff, Nat.reduceLT, Nat.reduceSub, Nat.reduceAdd, Nat.reduceMul, implies_true, true_and, and_true, cond_true, cond_false]
        refine hK5 _ _ _ ?_
        first | clear hK5 K5 | skip
        refine awp_reg zs [1, 2, 3, 4, 5, 6, 7, 8, 18, 19] fun K hK => ?_  -- region 9
        try simp only [go_sem, List.map_cons, List.map_nil, ↓reduceIte, Nat.reduceEqDiff, Nat.reduceLT, Nat.reduceSub, Nat.reduceAdd, Nat.reduceMul, implies_true, true_and, and_true, cond_true, cond_false]
        iterate 14 (first | (refine And.intro ?_ ?_; · first | omega | assumption | (simp; done) | (intros; simp_all; done) | decide) | skip)
        refine hK _ _ _ ?_
        clear hK K
        refine awp_block ?_
        -- loop 1: head [1, 2, 3, 4, 5, 6, 7, 8, 18, 19]
        refine awp_loop (fun T' H' n' => ∃ j : Nat, j ≤ a.length ∧ T' = tl [(1, .int .i64 clock), (2, .int .i64 more), (3, .int .i64 t), (4, .int .i64 vn), (5, .int .i64 low), (6, .sl 7 (a.map entAV)), (7, .sl 7 (b.map entAV)), (8, .loc n 0 0 0 []), (18, .int .i64 i), (19, .int .i64 j)] ∧ H' = H.put n (some (.arr 0 1 [schAV s])) ∧ n' = n + 1 ∧ (a.drop j).any (fun x => decide (y.seq ≤ x.seq)) = a.any (fun x => decide (y.seq ≤ x.seq))) (fun T' _ _ => a.length - iv (T' 19)) ?_ ?_
        · skip
          exact ⟨0, Nat.zero_le _, rfl, rfl, rfl, rfl⟩
        intro T1 H1 n1
        rintro ⟨j, hj, rfl, rfl, rfl, hd2⟩
        refine awp_seq_k fun K6 hK6 => ?_
        refine awp_reg zs [1, 2, 3, 4, 5, 6, 7, 8, 18, 19, 77] fun K hK => ?_  -- region 10
        try simp only [go_sem, List.map_cons, List.map_nil, ↓reduceIte, Nat.reduceEqDiff, Nat.reduceLT, Nat.reduceSub, Nat.reduceAdd, Nat.reduceMul, implies_true, true_and, and_true, cond_true, cond_false]
        iterate 14 (first | (refine And.intro ?_ ?_; · first | omega | assumption | (simp; done) | (intros; simp_all; done) | decide) | skip)
        refine hK _ _ _ ?_
        clear hK K
        refine awp_cond (b := _) (by simp only [go_sem, List.map_cons, List.map_nil, ↓reduceIte, Nat.reduceEqDiff, Nat.reduceLT, Nat.reduceSub, Nat.reduceAdd, Nat.reduceMul, implies_true, true_and, and_true, cond_true, cond_false]; rfl) (fun hb => ?_) (fun hb => ?_)  -- t77
        · skip
          have hlt2 : j < a.length := by simpa using hb
          have hn2 : nth (a.map entAV) j = entAV (a.getD j default) := nth_map entAV a j hlt2
          rw [drop_cons a j hlt2, List.any_cons] at hd2
          generalize a.getD j default = x at *
          refine awp_skip ?_
          try simp only [go_sem, List.map_cons, List.map_nil, ↓reduceIte, Nat.reduceEqDiff, Nat.reduceLT, Nat.reduceSub, Nat.reduceAdd, Nat.reduceMul, implies_true, true_and, and_true, cond_true, cond_false]
          refine hK6 _ _ _ ?_
          first | clear hK6 K6 | skip
          refine awp_seq_k fun K7 hK7 => ?_
          refine awp_block ?_
          refine awp_drw rfl zs [1, 2, 3, 4, 5, 6, 7, 8, 18, 19, 90] [.m, .m, .q, .q, .q, .m, .m, .q, .q, .q, .q] (by kernel_rfl) (fun _ _ _ _ _ h => h) fun K hK => ?_  -- region 12
          try simp only [go_sem, List.map_cons, List.map_nil, ↓reduceIte, Nat.reduceEqDiff, Nat.reduceLT, Nat.reduceSub, Nat.reduceAdd, Nat.reduceMul, implies_true, true_and, and_true, cond_true, cond_false, Int.toNat_natCast, hn1, hn2]
          iterate 14 (first | (refine And.intro ?_ ?_; · first | omega | assumption | (simp; done) | (intros; simp_all; done) | decide) | skip)
          refine hK _ _ _ ?_
          clear hK K
          refine awp_cond (b := _) (by simp only [go_sem, List.map_cons, List.map_nil, ↓reduceIte, Nat.reduceEqDiff, Nat.reduceLT, Nat.reduceSub, Nat.reduceAdd, Nat.reduceMul, implies_true, true_and, and_true, cond_true, cond_false]; rfl) (fun hb => ?_) (fun hb => ?_)  -- t90
          · skip
            have hx : decide (y.seq ≤ x.seq) = true := hb
            have hq : munseenB s clock more t vn low a b = true := by unfold munseenB; rw [he, cond_false, ← hd]; unfold olderX; rw [← hd2, hx]; simp
            refine awp_reg zs [16] fun K hK => ?_  -- region 13
            try simp only [go_sem, List.map_cons, List.map_nil, ↓reduceIte, Nat.reduceEqDiff, Nat.reduceLT, Nat.reduceSub, Nat.reduceAdd, Nat.reduceMul, implies_true, true_and, and_true, cond_true, cond_false]
            iterate 14 (first | (refine And.intro ?_ ?_; · first | omega | assumption | (simp; done) | (intros; simp_all; done) | decide) | skip)
            refine hK _ _ _ ?_
            clear hK K
            refine awp_ret ?_
            try simp only [go_sem, List.map_cons, List.map_nil, ↓reduceIte, Nat.reduceEqDiff, Nat.reduceLT, Nat.reduceSub, Nat.reduceAdd, Nat.reduceMul, implies_true, true_and, and_true, cond_true, cond_false]
            refine ⟨_, rfl, ?_, Frz.eq ?_ trivial⟩
            · intro k hk; have h0 : k ≠ n := by omega
              simp [Heap.put, h0]
            · rw [hq]
          · skip
            have hx : decide (y.seq ≤ x.seq) = false := hb
            refine awp_skip ?_
            try simp only [go_sem, List.map_cons, List.map_nil, ↓reduceIte, Nat.reduceEqDiff, Nat.reduceLT, Nat.reduceSub, Nat.reduceAdd, Nat.reduceMul, implies_true, true_and, and_true, cond_true, cond_false]
            refine hK7 _ _ _ ?_
            first | clear hK7 K7 | skip
            refine awp_reg1 zs [1, 2, 3, 4, 5, 6, 7, 8, 18, 19] fun K hK => ?_  -- region 11
            try simp only [go_sem, List.map_cons, List.map_nil, ↓reduceIte, Nat.reduceEqDiff, Nat.reduceLT, Nat.reduceSub, Nat.reduceAdd, Nat.reduceMul, implies_true, true_and, and_true, cond_true, cond_false]
            iterate 14 (first | (refine And.intro ?_ ?_; · first | omega | assumption | (simp; done) | (intros; simp_all; done) | decide) | skip)
            refine hK _ _ _ ?_
            clear hK K
            try simp only [go_sem, List.map_cons, List.map_nil, ↓reduceIte, Nat.reduceEqDiff, Nat.reduceLT, Nat.reduceSub, Nat.reduceAdd, Nat.reduceMul, implies_true, true_and, and_true, cond_true, cond_false]
            refine ⟨⟨j + 1, by omega, by rw [w1 (by omega)], by rw [← hd2, hx]; rfl⟩, by rw [w1 (by omega)]; simp; omega⟩
        · skip
          have hge2 : j = a.length := by simp at hb; omega
          have hy : olderX low a y = false := by unfold olderX; rw [hy1, ← hd2, hge2]; simp
          refine awp_exit ?_
          try simp only [go_sem, List.map_cons, List.map_nil, ↓reduceIte, Nat.reduceEqDiff, Nat.reduceLT, Nat.reduceSub, Nat.reduceAdd, Nat.reduceMul, implies_true, true_and, and_true, cond_true, cond_false]
          refine hK4 _ _ _ ?_
          first | clear hK4 K4 | skip
          refine awp_reg1 zs [1, 2, 3, 4, 5, 6, 7, 8, 18] fun K hK => ?_  -- region 6
          try simp only [go_sem, List.map_cons, List.map_nil, ↓reduceIte, Nat.reduceEqDiff, Nat.reduceLT, Nat.reduceSub, Nat.reduceAdd, Nat.reduceMul, implies_true, true_and, and_true, cond_true, cond_false]
          iterate 14 (first | (refine And.intro ?_ ?_; · first | omega | assumption | (simp; done) | (intros; simp_all; done) | decide) | skip)
          refine hK _ _ _ ?_
          clear hK K
          try simp only [go_sem, List.map_cons, List.map_nil, ↓reduceIte, Nat.reduceEqDiff, Nat.reduceLT, Nat.reduceSub, Nat.reduceAdd, Nat.reduceMul, implies_true, true_and, and_true, cond_true, cond_false]
          refine ⟨⟨i + 1, by omega, by rw [w1 (by omega)], by rw [← hd, hy]; rfl⟩, by rw [w1 (by omega)]; simp; omega⟩
    · skip
      have hge : i = b.length := by simp at hb; omega
      have hq : munseenB s clock more t vn low a b = bif (squashE s clock true low a).2 == 0 then agreeB s (IntKind.i64.wrap (clock + more)) t vn (a ++ b) ((squashE s clock true low a).1 ++ b) else false := by unfold munseenB; rw [he, cond_false, ← hd, hge]; simp
      refine awp_exit ?_
      try simp only [go_sem, List.map_cons, List.map_nil, ↓reduceIte, Nat.reduceEqDiff, Nat.reduceLT, Nat.reduceSub, Nat.reduceAdd, Nat.reduceMul, implies_true, true_and, and_true, cond_true, cond_false]
      refine hK2 _ _ _ ?_
      first | clear hK2 K2 | skip
      refine awp_reg zs [1, 2, 3, 4, 6, 7, 8, 20, 21] fun K hK => ?_  -- region 14
      try simp only [go_sem, List.map_cons, List.map_nil, ↓reduceIte, Nat.reduceEqDiff, Nat.reduceLT, Nat.reduceSub, Nat.reduceAdd, Nat.reduceMul, implies_true, true_and, and_true, cond_true, cond_false]
      iterate 14 (first | (refine And.intro ?_ ?_; · first | omega | assumption | (simp; done) | (intros; simp_all; done) | decide) | skip)
      refine callK_use Try.func15 rfl rfl rfl ((c_retain_Squash s clock low true a (by omega) _ _)) ?_
      try simp only [go_sem, List.map_cons, List.map_nil, ↓reduceIte, Nat.reduceEqDiff, Nat.reduceLT, Nat.reduceSub, Nat.reduceAdd, Nat.reduceMul, implies_true, true_and, and_true, cond_true, cond_false]
      iterate 14 (first | (refine And.intro ?_ ?_; · first | omega | assumption | (simp; done) | (intros; simp_all; done) | decide) | skip)
      refine hK _ _ _ ?_
      clear hK K
      refine awp_drw rfl zs [16] [.m, .c, .q, .m, .q, .m, .m, .q, .m, .m, .m, .m, .c, .m, .m, .c, .c, .q, .q] (by kernel_rfl) (fun _ _ _ _ _ h => h) fun K hK => ?_  -- region 15
      try simp only [go_sem, List.map_cons, List.map_nil, ↓reduceIte, Nat.reduceEqDiff, Nat.reduceLT, Nat.reduceSub, Nat.reduceAdd, Nat.reduceMul, implies_true, true_and, and_true, cond_true, cond_false]
      iterate 14 (first | (refine And.intro ?_ ?_; · first | omega | assumption | (simp; done) | (intros; simp_all; done) | decide) | skip)
      refine callQG_use Try.func16 rfl rfl rfl (fun _ n => (by apply c_law_num <;> first | assumption | omega)) ?_
      try simp only [go_sem, List.map_cons, List.map_nil, ↓reduceIte, Nat.reduceEqDiff, Nat.reduceLT, Nat.reduceSub, Nat.reduceAdd, Nat.reduceMul, implies_true, true_and, and_true, cond_true, cond_false]
      iterate 14 (first | (refine And.intro ?_ ?_; · first | omega | assumption | (simp; done) | (intros; simp_all; done) | decide) | skip)
      refine callQG_use Try.func14 rfl rfl rfl (fun _ n => (c_law_join a b (by omega) (by omega) hfa hfb _ _)) ?_
      try simp only [go_sem, List.map_cons, List.map_nil, ↓reduceIte, Nat.reduceEqDiff, Nat.reduceLT, Nat.reduceSub, Nat.reduceAdd, Nat.reduceMul, implies_true, true_and, and_true, cond_true, cond_false]
      iterate 14 (first | (refine And.intro ?_ ?_; · first | omega | assumption | (simp; done) | (intros; simp_all; done) | decide) | skip)
      refine callQG_use Try.func14 rfl rfl rfl (fun _ n => (c_law_join (squashE s clock true low a).1 b (by omega) (by omega) (squashE_fits s clock low true a) hfb _ _)) ?_
      try simp only [go_sem, List.map_cons, List.map_nil, ↓reduceIte, Nat.reduceEqDiff, Nat.reduceLT, Nat.reduceSub, Nat.reduceAdd, Nat.reduceMul, implies_true, true_and, and_true, cond_true, cond_false]
      iterate 14 (first | (refine And.intro ?_ ?_; · first | omega | assumption | (simp; done) | (intros; simp_all; done) | decide) | skip)
      refine callQG_use Try.func17 rfl rfl rfl (fun _ n => (c_law_agree s (IntKind.i64.wrap (clock + more)) t vn (a ++ b) ((squashE s clock true low a).1 ++ b) hab hlb hr hv _ _)) ?_
      try simp only [go_sem, List.map_cons, List.map_nil, ↓reduceIte, Nat.reduceEqDiff, Nat.reduceLT, Nat.reduceSub, Nat.reduceAdd, Nat.reduceMul, implies_true, true_and, and_true, cond_true, cond_false]
      iterate 14 (first | (refine And.intro ?_ ?_; · first | omega | assumption | (simp; done) | (intros; simp_all; done) | decide) | skip)
      refine hK _ _ _ ?_
      clear hK K
      refine awp_ret ?_
      try simp only [go_sem, List.map_cons, List.map_nil, ↓reduceIte, Nat.reduceEqDiff, Nat.reduceLT, Nat.reduceSub, Nat.reduceAdd, Nat.reduceMul, implies_true, true_and, and_true, cond_true, cond_false]
      refine ⟨_, rfl, ?_, Frz.eq ?_ trivial⟩
      · intro k hk; have h0 : k ≠ n := by omega
        simp [Heap.put, h0]
      · rw [hq]


end Go.Proofs.Ytijhkfhflpmajaa
namespace Go.Proofs.Ytijhkfhflpmajaa
open Go Go.Sx Go.Rt Go.Proofs

def sibX (e x : Ent) : Bool := bif (bif (bif (bif decide (x.kind ≤ 2) then decide (e.kind ≤ 2) else false) then x.fam == e.fam else false) then x.row == e.row else false) then x.qual == e.qual else false
def sibs (m : List Ent) (e : Ent) : Nat := (m.filter (sibX e)).length
def okX (low : Int) (v : List Ent) (e : Ent) : Bool := if e.kind = 1 then shownB v e else if e.kind = 2 then decide (e.value.length = 0) else if e.kind = 3 then false else decide (low < e.ts)
def famX (s : List Fml) (e : Ent) : Bool := bif decide (e.fam < 0) then true else decide ((s.length : Int) ≤ e.fam)
def badX (s : List Fml) (low : Int) (m v : List Ent) (e : Ent) : Bool :=
  famX s e || (bif !okX low v e then true else bif decide (e.kind ≤ 2) then decide ((famAt s e.fam).max < (sibs m e : Int)) else false)
def putsOf (m : List Ent) : Nat := (m.filter fun e => e.kind == 1).length
def collectsB (s : List Fml) (clock low : Int) (l : List Ent) : Bool :=
  bif (squashE s clock true low l).2 != 0 then decide ((squashE s clock true low l).1.length = 0)
  else bif (visE s clock l).2 != 0 then false
  else bif (squashE s clock true low l).1.any (badX s low (squashE s clock true low l).1 (visE s clock l).1) then false
  else decide (putsOf (squashE s clock true low l).1 = (visE s clock l).1.length)

theorem filt_cons {f : Ent → Bool} (x : Ent) (l : List Ent) : ((x :: l).filter f).length = (if f x = true then 1 else 0) + (l.filter f).length := by
  rw [List.filter_cons]; split <;> simp <;> omega

set_option maxRecDepth 100000 in
set_option maxHeartbeats 6400000 in
theorem c_law_RetainCollects (s : List Fml) (clock low : Int) (l : List Ent) (hl : l.length ≤ 10000000) (hv : (visE s clock l).1.length < 4611686018427387904) (H : Heap) (n : Nat) :
    Ret Try.prog 7 [schAV s, .int .i64 clock, .int .i64 low, entsAV l] H n (.bool (collectsB s clock low l)) H n := by
  have hsl := squashE_length s clock true low l
  refine Ret.fin ?_
  refine acalls_of_awp Try.func7 rfl Try.ntmps7 (congrArg Array.toList Try.results7) (by simp) ?_
  simp only [go_sem]
  refine awp_reg zs [1, 2, 3, 4] fun K hK => ?_  -- region 0
  try simp only [go_sem, List.map_cons, List.map_nil, ↓reduceIte, Nat.reduceEqDiff, Nat.reduceLT, Nat.reduceSub, Nat.reduceAdd, Nat.reduceMul, implies_true, true_and, and_true, cond_true, cond_false]
  iterate 14 (first | (refine And.intro ?_ ?_; · first | omega | assumption | (simp; done) | (intros; simp_all; done) | decide) | skip)
  refine hK _ _ _ ?_
  clear hK K
  refine awp_reg zs [1, 2, 3, 4, 9] fun K hK => ?_  -- region 1
  try simp only [go_sem, List.map_cons, List.map_nil, ↓reduceIte, Nat.reduceEqDiff, Nat.reduceLT, Nat.reduceSub, Nat.reduceAdd, Nat.reduceMul, implies_true, true_and, and_true, cond_true, cond_false]
  iterate 14 (first | (refine And.intro ?_ ?_; · first | omega | assumption | (simp; done) | (intros; simp_all; done) | decide) | skip)
  refine callK_use Try.func11 rfl rfl rfl ((c_law_started _ _)) ?_
  try simp only [go_sem, List.map_cons, List.map_nil, ↓reduceIte, Nat.reduceEqDiff, Nat.reduceLT, Nat.reduceSub, Nat.reduceAdd, Nat.reduceMul, implies_true, true_and, and_true, cond_true, cond_false]
  iterate 14 (first | (refine And.intro ?_ ?_; · first | omega | assumption | (simp; done) | (intros; simp_all; done) | decide) | skip)
  refine hK _ _ _ ?_
  clear hK K
  refine awp_reg zs [1, 2, 3, 4, 9, 10, 11] fun K hK => ?_  -- region 2
  try simp only [go_sem, List.map_cons, List.map_nil, ↓reduceIte, Nat.reduceEqDiff, Nat.reduceLT, Nat.reduceSub, Nat.reduceAdd, Nat.reduceMul, implies_true, true_and, and_true, cond_true, cond_false]
  iterate 14 (first | (refine And.intro ?_ ?_; · first | omega | assumption | (simp; done) | (intros; simp_all; done) | decide) | skip)
  refine callK_use Try.func15 rfl rfl rfl ((c_retain_Squash s clock low true l (by omega) _ _)) ?_
  try simp only [go_sem, List.map_cons, List.map_nil, ↓reduceIte, Nat.reduceEqDiff, Nat.reduceLT, Nat.reduceSub, Nat.reduceAdd, Nat.reduceMul, implies_true, true_and, and_true, cond_true, cond_false]
  iterate 14 (first | (refine And.intro ?_ ?_; · first | omega | assumption | (simp; done) | (intros; simp_all; done) | decide) | skip)
  refine hK _ _ _ ?_
  clear hK K
  refine awp_seq_k fun K1 hK1 => ?_
  refine awp_reg zs [1, 2, 3, 4, 9, 10, 33] fun K hK => ?_  -- region 3
  try simp only [go_sem, List.map_cons, List.map_nil, ↓reduceIte, Nat.reduceEqDiff, Nat.reduceLT, Nat.reduceSub, Nat.reduceAdd, Nat.reduceMul, implies_true, true_and, and_true, cond_true, cond_false]
  iterate 14 (first | (refine And.intro ?_ ?_; · first | omega | assumption | (simp; done) | (intros; simp_all; done) | decide) | skip)
  refine callG_use Try.func16 rfl rfl rfl (fun _ => (by apply c_law_num <;> first | assumption | omega)) ?_
  try simp only [go_sem, List.map_cons, List.map_nil, ↓reduceIte, Nat.reduceEqDiff, Nat.reduceLT, Nat.reduceSub, Nat.reduceAdd, Nat.reduceMul, implies_true, true_and, and_true, cond_true, cond_false]
  iterate 14 (first | (refine And.intro ?_ ?_; · first | omega | assumption | (simp; done) | (intros; simp_all; done) | decide) | skip)
  refine hK _ _ _ ?_
  clear hK K
  refine awp_cond (b := _) (by simp only [go_sem, List.map_cons, List.map_nil, ↓reduceIte, Nat.reduceEqDiff, Nat.reduceLT, Nat.reduceSub, Nat.reduceAdd, Nat.reduceMul, implies_true, true_and, and_true, cond_true, cond_false]; rfl) (fun hb => ?_) (fun hb => ?_)  -- t33
  · skip
    have h1 : ((squashE s clock true low l).2 != 0) = true := hb
    have hq : collectsB s clock low l = decide ((squashE s clock true low l).1.length = 0) := by unfold collectsB; rw [h1, cond_true]
    refine awp_reg zs [8] fun K hK => ?_  -- region 4
    try simp only [go_sem, List.map_cons, List.map_nil, ↓reduceIte, Nat.reduceEqDiff, Nat.reduceLT, Nat.reduceSub, Nat.reduceAdd, Nat.reduceMul, implies_true, true_and, and_true, cond_true, cond_false]
    iterate 14 (first | (refine And.intro ?_ ?_; · first | omega | assumption | (simp; done) | (intros; simp_all; done) | decide) | skip)
    refine hK _ _ _ ?_
    clear hK K
    refine awp_ret ?_
    try simp only [go_sem, List.map_cons, List.map_nil, ↓reduceIte, Nat.reduceEqDiff, Nat.reduceLT, Nat.reduceSub, Nat.reduceAdd, Nat.reduceMul, implies_true, true_and, and_true, cond_true, cond_false]
    refine ⟨_, rfl, ?_, Frz.eq ?_ trivial⟩
    · intro k hk; have h0 : k ≠ n := by omega
      simp [Heap.put, h0]
    · rw [hq]; first | done | (congr 1; rw [Bool.eq_iff_iff]; simp; done) | (congr 1; rw [Bool.eq_iff_iff]; simp; omega)
  · skip
    have h1 : ((squashE s clock true low l).2 != 0) = false := hb
    refine awp_skip ?_
    try simp only [go_sem, List.map_cons, List.map_nil, ↓reduceIte, Nat.reduceEqDiff, Nat.reduceLT, Nat.reduceSub, Nat.reduceAdd, Nat.reduceMul, implies_true, true_and, and_true, cond_true, cond_false]
    refine hK1 _ _ _ ?_
    first | clear hK1 K1 | skip
    refine awp_reg zs [2, 4, 10, 12, 13] fun K hK => ?_  -- region 5
    try simp only [go_sem, List.map_cons, List.map_nil, ↓reduceIte, Nat.reduceEqDiff, Nat.reduceLT, Nat.reduceSub, Nat.reduceAdd, Nat.reduceMul, implies_true, true_and, and_true, cond_true, cond_false]
    iterate 14 (first | (refine And.intro ?_ ?_; · first | omega | assumption | (simp; done) | (intros; simp_all; done) | decide) | skip)
    refine callK_use Try.func19 rfl rfl rfl ((c_retain_Vis s clock l (by omega) _ _)) ?_
    try simp only [go_sem, List.map_cons, List.map_nil, ↓reduceIte, Nat.reduceEqDiff, Nat.reduceLT, Nat.reduceSub, Nat.reduceAdd, Nat.reduceMul, implies_true, true_and, and_true, cond_true, cond_false]
    iterate 14 (first | (refine And.intro ?_ ?_; · first | omega | assumption | (simp; done) | (intros; simp_all; done) | decide) | skip)
    refine hK _ _ _ ?_
    clear hK K
    refine awp_seq_k fun K2 hK2 => ?_
    refine awp_reg zs [2, 4, 10, 12, 49] fun K hK => ?_  -- region 6
    try simp only [go_sem, List.map_cons, List.map_nil, ↓reduceIte, Nat.reduceEqDiff, Nat.reduceLT, Nat.reduceSub, Nat.reduceAdd, Nat.reduceMul, implies_true, true_and, and_true, cond_true, cond_false]
    iterate 14 (first | (refine And.intro ?_ ?_; · first | omega | assumption | (simp; done) | (intros; simp_all; done) | decide) | skip)
    refine callK_use Try.func16 rfl rfl rfl ((by apply c_law_num <;> first | assumption | omega)) ?_
    try simp only [go_sem, List.map_cons, List.map_nil, ↓reduceIte, Nat.reduceEqDiff, Nat.reduceLT, Nat.reduceSub, Nat.reduceAdd, Nat.reduceMul, implies_true, true_and, and_true, cond_true, cond_false]
    iterate 14 (first | (refine And.intro ?_ ?_; · first | omega | assumption | (simp; done) | (intros; simp_all; done) | decide) | skip)
    refine hK _ _ _ ?_
    clear hK K
    refine awp_cond (b := _) (by simp only [go_sem, List.map_cons, List.map_nil, ↓reduceIte, Nat.reduceEqDiff, Nat.reduceLT, Nat.reduceSub, Nat.reduceAdd, Nat.reduceMul, implies_true, true_and, and_true, cond_true, cond_false]; rfl) (fun hb => ?_) (fun hb => ?_)  -- t49
    · skip
      have h2 : ((visE s clock l).2 != 0) = true := hb
      have hq : collectsB s clock low l = false := by unfold collectsB; rw [h1, h2, cond_true, cond_false]
      refine awp_reg zs [8] fun K hK => ?_  -- region 7
      try simp only [go_sem, List.map_cons, List.map_nil, ↓reduceIte, Nat.reduceEqDiff, Nat.reduceLT, Nat.reduceSub, Nat.reduceAdd, Nat.reduceMul, implies_true, true_and, and_true, cond_true, cond_false]
      iterate 14 (first | (refine And.intro ?_ ?_; · first | omega | assumption | (simp; done) | (intros; simp_all; done) | decide) | skip)
      refine hK _ _ _ ?_
      clear hK K
      refine awp_ret ?_
      try simp only [go_sem, List.map_cons, List.map_nil, ↓reduceIte, Nat.reduceEqDiff, Nat.reduceLT, Nat.reduceSub, Nat.reduceAdd, Nat.reduceMul, implies_true, true_and, and_true, cond_true, cond_false]
      refine ⟨_, rfl, ?_, Frz.eq ?_ trivial⟩
      · intro k hk; have h0 : k ≠ n := by omega
        simp [Heap.put, h0]
      · rw [hq]; first | done | (congr 1; rw [Bool.eq_iff_iff]; simp; done) | (congr 1; rw [Bool.eq_iff_iff]; simp; omega)
    · skip
      have h2 : ((visE s clock l).2 != 0) = false := hb
      have hq0 : collectsB s clock low l = bif (squashE s clock true low l).1.any (badX s low (squashE s clock true low l).1 (visE s clock l).1) then false else decide (putsOf (squashE s clock true low l).1 = (visE s clock l).1.length) := by unfold collectsB; rw [h1, h2, cond_false, cond_false]
      have hml : (squashE s clock true low l).1.length ≤ 100000000 := by omega
      generalize (squashE s clock true low l).1 = m at *
      generalize (visE s clock l).1 = v at *
      refine awp_skip ?_
      try simp only [go_sem, List.map_cons, List.map_nil, ↓reduceIte, Nat.reduceEqDiff, Nat.reduceLT, Nat.reduceSub, Nat.reduceAdd, Nat.reduceMul, implies_true, true_and, and_true, cond_true, cond_false]
      refine hK2 _ _ _ ?_
      first | clear hK2 K2 | skip
      refine awp_reg zs [2, 4, 10, 12, 14] fun K hK => ?_  -- region 8
      try simp only [go_sem, List.map_cons, List.map_nil, ↓reduceIte, Nat.reduceEqDiff, Nat.reduceLT, Nat.reduceSub, Nat.reduceAdd, Nat.reduceMul, implies_true, true_and, and_true, cond_true, cond_false]
      iterate 14 (first | (refine And.intro ?_ ?_; · first | omega | assumption | (simp; done) | (intros; simp_all; done) | decide) | skip)
      refine hK _ _ _ ?_
      clear hK K
      refine awp_seq_k fun K3 hK3 => ?_
      refine awp_reg zs [2, 4, 10, 12, 14, 15] fun K hK => ?_  -- region 9
      try simp only [go_sem, List.map_cons, List.map_nil, ↓reduceIte, Nat.reduceEqDiff, Nat.reduceLT, Nat.reduceSub, Nat.reduceAdd, Nat.reduceMul, implies_true, true_and, and_true, cond_true, cond_false]
      iterate 14 (first | (refine And.intro ?_ ?_; · first | omega | assumption | (simp; done) | (intros; simp_all; done) | decide) | skip)
      refine hK _ _ _ ?_
      clear hK K
      refine awp_block ?_
      -- loop 0: head [2, 4, 10, 12, 14, 15]
      refine awp_loop (fun T' H' n' => ∃ (i p : Nat), i ≤ m.length ∧ p ≤ i ∧ T' = tl [(2, .int .i64 low), (4, .loc n 0 0 0 []), (10, .sl 7 (m.map entAV)), (12, .sl 7 (v.map entAV)), (14, .int .i64 p), (15, .int .i64 i)] ∧ H' = H.put n (some (.arr 0 1 [schAV s])) ∧ n' = n + 1 ∧ (m.drop i).any (badX s low m v) = m.any (badX s low m v) ∧ p + putsOf (m.drop i) = putsOf m) (fun T' _ _ => m.length - iv (T' 15)) ?_ ?_
      · skip
        exact ⟨0, 0, Nat.zero_le _, Nat.zero_le _, rfl, rfl, rfl, rfl, by simp⟩
      intro T1 H1 n1
      rintro ⟨i, p, hi, hp, rfl, rfl, rfl, hd, hpu⟩
      refine awp_seq_k fun K4 hK4 => ?_
      refine awp_reg zs [2, 4, 10, 12, 14, 15, 53] fun K hK => ?_  -- region 10
      try simp only [go_sem, List.map_cons, List.map_nil, ↓reduceIte, Nat.reduceEqDiff, Nat.reduceLT, Nat.reduceSub, Nat.reduceAdd, Nat.reduceMul, implies_true, true_and, and_true, cond_true, cond_false]
      iterate 14 (first | (refine And.intro ?_ ?_; · first | omega | assumption | (simp; done) | (intros; simp_all; done) | decide) | skip)
      refine hK _ _ _ ?_
      clear hK K
      refine awp_cond (b := _) (by simp only [go_sem, List.map_cons, List.map_nil, ↓reduceIte, Nat.reduceEqDiff, Nat.reduceLT, Nat.reduceSub, Nat.reduceAdd, Nat.reduceMul, implies_true, true_and, and_true, cond_true, cond_false]; rfl) (fun hb => ?_) (fun hb => ?_)  -- t53
      · skip
        have hlt : i < m.length := by simpa using hb
        have hn1 : nth (m.map entAV) i = entAV (m.getD i default) := nth_map entAV m i hlt
        rw [drop_cons m i hlt, List.any_cons] at hd
        rw [drop_cons m i hlt, putsOf, filt_cons] at hpu
        generalize m.getD i default = e at *
        refine awp_skip ?_
        try simp only [go_sem, List.map_cons, List.map_nil, ↓reduceIte, Nat.reduceEqDiff, Nat.reduceLT, Nat.reduceSub, Nat.reduceAdd, Nat.reduceMul, implies_true, true_and, and_true, cond_true, cond_false]
        refine hK4 _ _ _ ?_
        first | clear hK4 K4 | skip
        refine awp_seq_k fun K5 hK5 => ?_
        refine awp_block ?_
        refine awp_reg zs [2, 4, 10, 12, 14, 15, 16] fun K hK => ?_  -- region 12
        try simp only [go_sem, List.map_cons, List.map_nil, ↓reduceIte, Nat.reduceEqDiff, Nat.reduceLT, Nat.reduceSub, Nat.reduceAdd, Nat.reduceMul, implies_true, true_and, and_true, cond_true, cond_false]
        iterate 14 (first | (refine And.intro ?_ ?_; · first | omega | assumption | (simp; done) | (intros; simp_all; done) | decide) | skip)
        refine hK _ _ _ ?_
        clear hK K
        refine awp_seq_k fun K6 hK6 => ?_
        refine awp_drw rfl zs [2, 4, 10, 12, 14, 15, 16, 72] [.m, .m, .q, .q, .q, .q, .m, .m, .m, .q, .q, .q, .q, .q, .q, .q, .q] (by kernel_rfl) (fun _ _ _ _ _ h => h) fun K hK => ?_  -- region 13
        try simp only [go_sem, List.map_cons, List.map_nil, ↓reduceIte, Nat.reduceEqDiff, Nat.reduceLT, Nat.reduceSub, Nat.reduceAdd, Nat.reduceMul, implies_true, true_and, and_true, cond_true, cond_false, Int.toNat_natCast, hn1]
        iterate 14 (first | (refine And.intro ?_ ?_; · first | omega | assumption | (simp; done) | (intros; simp_all; done) | decide) | skip)
        refine hK _ _ _ ?_
        clear hK K
        refine awp_cond (b := _) (by simp only [go_sem, List.map_cons, List.map_nil, ↓reduceIte, Nat.reduceEqDiff, Nat.reduceLT, Nat.reduceSub, Nat.reduceAdd, Nat.reduceMul, implies_true, true_and, and_true, cond_true, cond_false]; rfl) (fun hb => ?_) (fun hb => ?_)  -- t72
        · skip
          have hf : famX s e = true := by unfold famX; rw [List.length_map] at hb; exact hb
          have hq : collectsB s clock low l = false := by rw [hq0, ← hd]; unfold badX; rw [hf]; rfl
          refine awp_reg zs [8] fun K hK => ?_  -- region 14
          try simp only [go_sem, List.map_cons, List.map_nil, ↓reduceIte, Nat.reduceEqDiff, Nat.reduceLT, Nat.reduceSub, Nat.reduceAdd, Nat.reduceMul, implies_true, true_and, and_true, cond_true, cond_false]
          iterate 14 (first | (refine And.intro ?_ ?_; · first | omega | assumption | (simp; done) | (intros; simp_all; done) | decide) | skip)
          refine hK _ _ _ ?_
          clear hK K
          refine awp_ret ?_
          try simp only [go_sem, List.map_cons, List.map_nil, ↓reduceIte, Nat.reduceEqDiff, Nat.reduceLT, Nat.reduceSub, Nat.reduceAdd, Nat.reduceMul, implies_true, true_and, and_true, cond_true, cond_false]
          refine ⟨_, rfl, ?_, Frz.eq ?_ trivial⟩
          · intro k hk; have h0 : k ≠ n := by omega
            simp [Heap.put, h0]
          · rw [hq]; first | done | (congr 1; rw [Bool.eq_iff_iff]; simp; done) | (congr 1; rw [Bool.eq_iff_iff]; simp; omega)
        · skip
          have hf : famX s e = false := by unfold famX; rw [List.length_map] at hb; exact hb
          have hf0 : 0 ≤ e.fam ∧ e.fam < s.length := by unfold famX at hf; by_cases h9 : e.fam < 0 <;> simp [h9] at hf <;> omega
          refine awp_skip ?_
          try simp only [go_sem, List.map_cons, List.map_nil, ↓reduceIte, Nat.reduceEqDiff, Nat.reduceLT, Nat.reduceSub, Nat.reduceAdd, Nat.reduceMul, implies_true, true_and, and_true, cond_true, cond_false]
          refine hK6 _ _ _ ?_
          first | clear hK6 K6 | skip
          refine awp_seq_k fun K7 hK7 => ?_
          refine awp_reg zs [2, 4, 10, 12, 14, 15, 16, 17] fun K hK => ?_  -- region 15
          try simp only [go_sem, List.map_cons, List.map_nil, ↓reduceIte, Nat.reduceEqDiff, Nat.reduceLT, Nat.reduceSub, Nat.reduceAdd, Nat.reduceMul, implies_true, true_and, and_true, cond_true, cond_false]
          iterate 14 (first | (refine And.intro ?_ ?_; · first | omega | assumption | (simp; done) | (intros; simp_all; done) | decide) | skip)
          refine hK _ _ _ ?_
          clear hK K
          refine awp_block ?_
          -- loop 1: head [2, 4, 10, 12, 14, 15, 16, 17]
          refine awp_loop (fun T' H' n' => ∃ (j c : Nat), j ≤ m.length ∧ c ≤ j ∧ T' = tl [(2, .int .i64 low), (4, .loc n 0 0 0 []), (10, .sl 7 (m.map entAV)), (12, .sl 7 (v.map entAV)), (14, .int .i64 p), (15, .int .i64 i), (16, .int .i64 c), (17, .int .i64 j)] ∧ H' = H.put n (some (.arr 0 1 [schAV s])) ∧ n' = n + 1 ∧ c + ((m.drop j).filter (sibX e)).length = sibs m e) (fun T' _ _ => m.length - iv (T' 17)) ?_ ?_
          · skip
            exact ⟨0, 0, Nat.zero_le _, Nat.zero_le _, rfl, rfl, rfl, by simp [sibs]⟩
          intro T1 H1 n1
          rintro ⟨j, c, hj, hcj, rfl, rfl, rfl, hs⟩
          refine awp_seq_k fun K8 hK8 => ?_
          refine awp_reg zs [2, 4, 10, 12, 14, 15, 16, 17, 76] fun K hK => ?_  -- region 16
          try simp only [go_sem, List.map_cons, List.map_nil, ↓reduceIte, Nat.reduceEqDiff, Nat.reduceLT, Nat.reduceSub, Nat.reduceAdd, Nat.reduceMul, implies_true, true_and, and_true, cond_true, cond_false]
          iterate 14 (first | (refine And.intro ?_ ?_; · first | omega | assumption | (simp; done) | (intros; simp_all; done) | decide) | skip)
          refine hK _ _ _ ?_
          clear hK K
          refine awp_cond (b := _) (by simp only [go_sem, List.map_cons, List.map_nil, ↓reduceIte, Nat.reduceEqDiff, Nat.reduceLT, Nat.reduceSub, Nat.reduceAdd, Nat.reduceMul, implies_true, true_and, and_true, cond_true, cond_false]; rfl) (fun hb => ?_) (fun hb => ?_)  -- t76
          · skip
            have hlt2 : j < m.length := by simpa using hb
            have hn2 : nth (m.map entAV) j = entAV (m.getD j default) := nth_map entAV m j hlt2
            rw [drop_cons m j hlt2, filt_cons] at hs
            generalize m.getD j default = x at *
            refine awp_skip ?_
            try simp only [go_sem, List.map_cons, List.map_nil, ↓reduceIte, Nat.reduceEqDiff, Nat.reduceLT, Nat.reduceSub, Nat.reduceAdd, Nat.reduceMul, implies_true, true_and, and_true, cond_true, cond_false]
            refine hK8 _ _ _ ?_
            first | clear hK8 K8 | skip
            refine awp_seq_k fun K9 hK9 => ?_
            refine awp_block ?_
            refine awp_drw rfl zs [2, 4, 10, 12, 14, 15, 16, 17, 131] [.m, .m, .q, .q, .q, .q, .m, .m, .m, .q, .q, .q, .q, .q, .m, .m, .m, .q, .q, .q, .m, .m, .q, .q, .q, .q, .q, .m, .m, .m, .q, .q, .q, .m, .m, .q, .q, .q, .c, .q, .m, .m, .m, .q, .q, .q, .m, .m, .q, .q, .q, .c, .q] (by kernel_rfl) (fun _ _ _ _ _ h => h) fun K hK => ?_  -- region 18
            try simp only [go_sem, List.map_cons, List.map_nil, ↓reduceIte, Nat.reduceEqDiff, Nat.reduceLT, Nat.reduceSub, Nat.reduceAdd, Nat.reduceMul, implies_true, true_and, and_true, cond_true, cond_false, Int.toNat_natCast, hn1, hn2]
            iterate 14 (first | (refine And.intro ?_ ?_; · first | omega | assumption | (simp; done) | (intros; simp_all; done) | decide) | skip)
            refine callQG_use Try.func20 rfl rfl rfl (fun _ n => (c_ref3_Alike x.row e.row _ _)) ?_
            try simp only [go_sem, List.map_cons, List.map_nil, ↓reduceIte, Nat.reduceEqDiff, Nat.reduceLT, Nat.reduceSub, Nat.reduceAdd, Nat.reduceMul, implies_true, true_and, and_true, cond_true, cond_false, Int.toNat_natCast, hn1, hn2]
            iterate 14 (first | (refine And.intro ?_ ?_; · first | omega | assumption | (simp; done) | (intros; simp_all; done) | decide) | skip)
            refine callQG_use Try.func20 rfl rfl rfl (fun _ n => (c_ref3_Alike x.qual e.qual _ _)) ?_
            try simp only [go_sem, List.map_cons, List.map_nil, ↓reduceIte, Nat.reduceEqDiff, Nat.reduceLT, Nat.reduceSub, Nat.reduceAdd, Nat.reduceMul, implies_true, true_and, and_true, cond_true, cond_false, Int.toNat_natCast, hn1, hn2]
            iterate 14 (first | (refine And.intro ?_ ?_; · first | omega | assumption | (simp; done) | (intros; simp_all; done) | decide) | skip)
            refine hK _ _ _ ?_
            clear hK K
            refine awp_cond (b := _) (by simp only [go_sem, List.map_cons, List.map_nil, ↓reduceIte, Nat.reduceEqDiff, Nat.reduceLT, Nat.reduceSub, Nat.reduceAdd, Nat.reduceMul, implies_true, true_and, and_true, cond_true, cond_false]; rfl) (fun hb => ?_) (fun hb => ?_)  -- t131
            · skip
              have hx : sibX e x = true := hb
              rw [if_pos hx] at hs
              have hw1 : IntKind.i64.wrap ((c : Int) + 1) = ((c + 1 : Nat) : Int) := Rt.w1 (by omega)
              refine awp_reg1 zs [2, 4, 10, 12, 14, 15, 16, 17] fun K hK => ?_  -- region 19
              try simp only [go_sem, List.map_cons, List.map_nil, ↓reduceIte, Nat.reduceEqDiff, Nat.reduceLT, Nat.reduceSub, Nat.reduceAdd, Nat.reduceMul, implies_true, true_and, and_true, cond_true, cond_false, hw1]
              iterate 14 (first | (refine And.intro ?_ ?_; · first | omega | assumption | (simp; done) | (intros; simp_all; done) | decide) | skip)
              refine hK _ _ _ ?_
              clear hK K
              try simp only [go_sem, List.map_cons, List.map_nil, ↓reduceIte, Nat.reduceEqDiff, Nat.reduceLT, Nat.reduceSub, Nat.reduceAdd, Nat.reduceMul, implies_true, true_and, and_true, cond_true, cond_false]
              refine hK9 _ _ _ ?_
              first | clear hK9 K9 | skip
              refine awp_reg1 zs [2, 4, 10, 12, 14, 15, 16, 17] fun K hK => ?_  -- region 17
              try simp only [go_sem, List.map_cons, List.map_nil, ↓reduceIte, Nat.reduceEqDiff, Nat.reduceLT, Nat.reduceSub, Nat.reduceAdd, Nat.reduceMul, implies_true, true_and, and_true, cond_true, cond_false]
              iterate 14 (first | (refine And.intro ?_ ?_; · first | omega | assumption | (simp; done) | (intros; simp_all; done) | decide) | skip)
              refine hK _ _ _ ?_
              clear hK K
              try simp only [go_sem, List.map_cons, List.map_nil, ↓reduceIte, Nat.reduceEqDiff, Nat.reduceLT, Nat.reduceSub, Nat.reduceAdd, Nat.reduceMul, implies_true, true_and, and_true, cond_true, cond_false]
              first
              | exact ⟨⟨j + 1, c + 1, by omega, by omega, by rw [Rt.w1 (by omega)], by omega⟩, by rw [Rt.w1 (by omega)]; simp; omega⟩
              | exact ⟨⟨j + 1, c, by omega, by omega, by rw [Rt.w1 (by omega)], by omega⟩, by rw [Rt.w1 (by omega)]; simp; omega⟩
            · skip
              have hx : sibX e x = false := hb
              rw [if_neg (by rw [hx]; decide)] at hs
              refine awp_skip ?_
              try simp only [go_sem, List.map_cons, List.map_nil, ↓reduceIte, Nat.reduceEqDiff, Nat.reduceLT, Nat.reduceSub, Nat.reduceAdd, Nat.reduceMul, implies_true, true_and, and_true, cond_true, cond_false]
              refine hK9 _ _ _ ?_
              first | clear hK9 K9 | skip
              refine awp_reg1 zs [2, 4, 10, 12, 14, 15, 16, 17] fun K hK => ?_  -- region 17
              try simp only [go_sem, List.map_cons, List.map_nil, ↓reduceIte, Nat.reduceEqDiff, Nat.reduceLT, Nat.reduceSub, Nat.reduceAdd, Nat.reduceMul, implies_true, true_and, and_true, cond_true, cond_false]
              iterate 14 (first | (refine And.intro ?_ ?_; · first | omega | assumption | (simp; done) | (intros; simp_all; done) | decide) | skip)
              refine hK _ _ _ ?_
              clear hK K
              try simp only [go_sem, List.map_cons, List.map_nil, ↓reduceIte, Nat.reduceEqDiff, Nat.reduceLT, Nat.reduceSub, Nat.reduceAdd, Nat.reduceMul, implies_true, true_and, and_true, cond_true, cond_false]
              first
              | exact ⟨⟨j + 1, c + 1, by omega, by omega, by rw [Rt.w1 (by omega)], by omega⟩, by rw [Rt.w1 (by omega)]; simp; omega⟩
              | exact ⟨⟨j + 1, c, by omega, by omega, by rw [Rt.w1 (by omega)], by omega⟩, by rw [Rt.w1 (by omega)]; simp; omega⟩
          · skip
            have hge2 : j = m.length := by simp at hb; omega
            rw [hge2, List.drop_length] at hs
            have hcs : c = sibs m e := by simpa using hs
            refine awp_exit ?_
            try simp only [go_sem, List.map_cons, List.map_nil, ↓reduceIte, Nat.reduceEqDiff, Nat.reduceLT, Nat.reduceSub, Nat.reduceAdd, Nat.reduceMul, implies_true, true_and, and_true, cond_true, cond_false]
            refine hK7 _ _ _ ?_
            first | clear hK7 K7 | skip
            refine awp_seq_j (fun T' H' n' => T' 2 = .int .i64 low ∧ T' 4 = .loc n 0 0 0 [] ∧ T' 9 = .bool (okX low v e) ∧ T' 10 = .sl 7 (m.map entAV) ∧ T' 12 = .sl 7 (v.map entAV) ∧ T' 14 = .int .i64 (p + (if e.kind = 1 then 1 else 0) : Nat) ∧ T' 15 = .int .i64 i ∧ T' 16 = .int .i64 c ∧ H' = H.put n (some (.arr 0 1 [schAV s])) ∧ n' = n + 1) ?_ ?_
            · skip
              refine awp_reg zs [2, 4, 10, 12, 14, 15, 16, 138] fun K hK => ?_  -- region 20
              try simp only [go_sem, List.map_cons, List.map_nil, ↓reduceIte, Nat.reduceEqDiff, Nat.reduceLT, Nat.reduceSub, Nat.reduceAdd, Nat.reduceMul, implies_true, true_and, and_true, cond_true, cond_false, Int.toNat_natCast, hn1]
              iterate 14 (first | (refine And.intro ?_ ?_; · first | omega | assumption | (simp; done) | (intros; simp_all; done) | decide) | skip)
              refine hK _ _ _ ?_
              clear hK K
              refine awp_block ?_
              refine awp_reg zs [2, 4, 10, 12, 14, 15, 16, 138, 146] fun K hK => ?_  -- region 22
              try simp only [go_sem, List.map_cons, List.map_nil, ↓reduceIte, Nat.reduceEqDiff, Nat.reduceLT, Nat.reduceSub, Nat.reduceAdd, Nat.reduceMul, implies_true, true_and, and_true, cond_true, cond_false]
              iterate 14 (first | (refine And.intro ?_ ?_; · first | omega | assumption | (simp; done) | (intros; simp_all; done) | decide) | skip)
              refine hK _ _ _ ?_
              clear hK K
              refine awp_cond (b := _) (by simp only [go_sem, List.map_cons, List.map_nil, ↓reduceIte, Nat.reduceEqDiff, Nat.reduceLT, Nat.reduceSub, Nat.reduceAdd, Nat.reduceMul, implies_true, true_and, and_true, cond_true, cond_false]; rfl) (fun hb => ?_) (fun hb => ?_)  -- t146
              · skip
                have k1 : e.kind = 1 := by simpa using hb
                have hwp : IntKind.i64.wrap ((p : Int) + 1) = ((p + 1 : Nat) : Int) := Rt.w1 (by omega)
                refine awp_reg zs [2, 4, 10, 12, 14, 15, 16] fun K hK => ?_  -- region 23
                try simp only [go_sem, List.map_cons, List.map_nil, ↓reduceIte, Nat.reduceEqDiff, Nat.reduceLT, Nat.reduceSub, Nat.reduceAdd, Nat.reduceMul, implies_true, true_and, and_true, cond_true, cond_false, hwp]
                iterate 14 (first | (refine And.intro ?_ ?_; · first | omega | assumption | (simp; done) | (intros; simp_all; done) | decide) | skip)
                refine hK _ _ _ ?_
                clear hK K
                refine awp_reg1 zs [2, 4, 9, 10, 12, 14, 15, 16] fun K hK => ?_  -- region 24
                try simp only [go_sem, List.map_cons, List.map_nil, ↓reduceIte, Nat.reduceEqDiff, Nat.reduceLT, Nat.reduceSub, Nat.reduceAdd, Nat.reduceMul, implies_true, true_and, and_true, cond_true, cond_false, Int.toNat_natCast, hn1]
                iterate 14 (first | (refine And.intro ?_ ?_; · first | omega | assumption | (simp; done) | (intros; simp_all; done) | decide) | skip)
                refine callK_use Try.func21 rfl rfl rfl ((c_law_shown v e hv _ _)) ?_
                try simp only [go_sem, List.map_cons, List.map_nil, ↓reduceIte, Nat.reduceEqDiff, Nat.reduceLT, Nat.reduceSub, Nat.reduceAdd, Nat.reduceMul, implies_true, true_and, and_true, cond_true, cond_false, Int.toNat_natCast, hn1]
                iterate 14 (first | (refine And.intro ?_ ?_; · first | omega | assumption | (simp; done) | (intros; simp_all; done) | decide) | skip)
                refine hK _ _ _ ?_
                clear hK K
                try simp only [go_sem, List.map_cons, List.map_nil, ↓reduceIte, Nat.reduceEqDiff, Nat.reduceLT, Nat.reduceSub, Nat.reduceAdd, Nat.reduceMul, implies_true, true_and, and_true, cond_true, cond_false]
                first
                | (simp [okX, k1, tl, schAV]; done)
                | (simp [okX, k1, k2, tl, schAV]; done)
                | (simp [okX, k1, k2, tl, schAV]; rw [Bool.eq_iff_iff]; simp; done)
                | (simp [okX, k1, k2, k3, tl, schAV]; done)
              · skip
                have k1 : e.kind ≠ 1 := by simpa using hb
                refine awp_reg zs [2, 4, 10, 12, 14, 15, 16, 138, 156] fun K hK => ?_  -- region 25
                try simp only [go_sem, List.map_cons, List.map_nil, ↓reduceIte, Nat.reduceEqDiff, Nat.reduceLT, Nat.reduceSub, Nat.reduceAdd, Nat.reduceMul, implies_true, true_and, and_true, cond_true, cond_false]
                iterate 14 (first | (refine And.intro ?_ ?_; · first | omega | assumption | (simp; done) | (intros; simp_all; done) | decide) | skip)
                refine hK _ _ _ ?_
                clear hK K
                refine awp_cond (b := _) (by simp only [go_sem, List.map_cons, List.map_nil, ↓reduceIte, Nat.reduceEqDiff, Nat.reduceLT, Nat.reduceSub, Nat.reduceAdd, Nat.reduceMul, implies_true, true_and, and_true, cond_true, cond_false]; rfl) (fun hb => ?_) (fun hb => ?_)  -- t156
                · skip
                  have k2 : e.kind = 2 := by simpa using hb
                  refine awp_reg1 zs [2, 4, 9, 10, 12, 14, 15, 16] fun K hK => ?_  -- region 26
                  try simp only [go_sem, List.map_cons, List.map_nil, ↓reduceIte, Nat.reduceEqDiff, Nat.reduceLT, Nat.reduceSub, Nat.reduceAdd, Nat.reduceMul, implies_true, true_and, and_true, cond_true, cond_false, Int.toNat_natCast, hn1]
                  iterate 14 (first | (refine And.intro ?_ ?_; · first | omega | assumption | (simp; done) | (intros; simp_all; done) | decide) | skip)
                  refine hK _ _ _ ?_
                  clear hK K
                  try simp only [go_sem, List.map_cons, List.map_nil, ↓reduceIte, Nat.reduceEqDiff, Nat.reduceLT, Nat.reduceSub, Nat.reduceAdd, Nat.reduceMul, implies_true, true_and, and_true, cond_true, cond_false]
                  first
                  | (simp [okX, k1, tl, schAV]; done)
                  | (simp [okX, k1, k2, tl, schAV]; done)
                  | (simp [okX, k1, k2, tl, schAV]; rw [Bool.eq_iff_iff]; simp; done)
                  | (simp [okX, k1, k2, k3, tl, schAV]; done)
                · skip
                  have k2 : e.kind ≠ 2 := by simpa using hb
                  refine awp_reg zs [2, 4, 10, 12, 14, 15, 16, 165] fun K hK => ?_  -- region 27
                  try simp only [go_sem, List.map_cons, List.map_nil, ↓reduceIte, Nat.reduceEqDiff, Nat.reduceLT, Nat.reduceSub, Nat.reduceAdd, Nat.reduceMul, implies_true, true_and, and_true, cond_true, cond_false]
                  iterate 14 (first | (refine And.intro ?_ ?_; · first | omega | assumption | (simp; done) | (intros; simp_all; done) | decide) | skip)
                  refine hK _ _ _ ?_
                  clear hK K
                  refine awp_cond (b := _) (by simp only [go_sem, List.map_cons, List.map_nil, ↓reduceIte, Nat.reduceEqDiff, Nat.reduceLT, Nat.reduceSub, Nat.reduceAdd, Nat.reduceMul, implies_true, true_and, and_true, cond_true, cond_false]; rfl) (fun hb => ?_) (fun hb => ?_)  -- t165
                  · skip
                    have k3 : e.kind = 3 := by simpa using hb
                    refine awp_reg1 zs [2, 4, 9, 10, 12, 14, 15, 16] fun K hK => ?_  -- region 28
                    try simp only [go_sem, List.map_cons, List.map_nil, ↓reduceIte, Nat.reduceEqDiff, Nat.reduceLT, Nat.reduceSub, Nat.reduceAdd, Nat.reduceMul, implies_true, true_and, and_true, cond_true, cond_false]
                    iterate 14 (first | (refine And.intro ?_ ?_; · first | omega | assumption | (simp; done) | (intros; simp_all; done) | decide) | skip)
                    refine hK _ _ _ ?_
                    clear hK K
                    try simp only [go_sem, List.map_cons, List.map_nil, ↓reduceIte, Nat.reduceEqDiff, Nat.reduceLT, Nat.reduceSub, Nat.reduceAdd, Nat.reduceMul, implies_true, true_and, and_true, cond_true, cond_false]
                    first
                    | (simp [okX, k1, tl, schAV]; done)
                    | (simp [okX, k1, k2, tl, schAV]; done)
                    | (simp [okX, k1, k2, tl, schAV]; rw [Bool.eq_iff_iff]; simp; done)
                    | (simp [okX, k1, k2, k3, tl, schAV]; done)
                  · skip
                    have k3 : e.kind ≠ 3 := by simpa using hb
                    refine awp_reg1 zs [2, 4, 9, 10, 12, 14, 15, 16] fun K hK => ?_  -- region 21
                    try simp only [go_sem, List.map_cons, List.map_nil, ↓reduceIte, Nat.reduceEqDiff, Nat.reduceLT, Nat.reduceSub, Nat.reduceAdd, Nat.reduceMul, implies_true, true_and, and_true, cond_true, cond_false, Int.toNat_natCast, hn1]
                    iterate 14 (first | (refine And.intro ?_ ?_; · first | omega | assumption | (simp; done) | (intros; simp_all; done) | decide) | skip)
                    refine hK _ _ _ ?_
                    clear hK K
                    try simp only [go_sem, List.map_cons, List.map_nil, ↓reduceIte, Nat.reduceEqDiff, Nat.reduceLT, Nat.reduceSub, Nat.reduceAdd, Nat.reduceMul, implies_true, true_and, and_true, cond_true, cond_false]
                    first
                    | (simp [okX, k1, tl, schAV]; done)
                    | (simp [okX, k1, k2, tl, schAV]; done)
                    | (simp [okX, k1, k2, tl, schAV]; rw [Bool.eq_iff_iff]; simp; done)
                    | (simp [okX, k1, k2, k3, tl, schAV]; done)
            rintro T1 _ _ ⟨t2, t4, t9, t10, t12, t14, t15, t16, rfl, rfl⟩
            refine awp_sel [2, 4, 9, 10, 12, 14, 15, 16] ?_
            simp only [tsel_eq, List.map_cons, List.map_nil, t2, t4, t9, t10, t12, t14, t15, t16]
            have hn3 : nth (s.map famAV) e.fam.toNat = famAV (famAt s e.fam) := nth_map famAV s _ (by omega)
            refine awp_drw rfl zs [2, 4, 10, 12, 14, 15, 190] [.m, .q, .m, .m, .m, .q, .q, .q, .q, .m, .m, .q, .q, .m, .m, .q, .q, .q, .q, .q, .q, .q, .q, .q] (by kernel_rfl) (fun _ _ _ _ _ h => h) fun K hK => ?_  -- region 29
            try simp only [go_sem, List.map_cons, List.map_nil, ↓reduceIte, Nat.reduceEqDiff, Nat.reduceLT, Nat.reduceSub, Nat.reduceAdd, Nat.reduceMul, implies_true, true_and, and_true, cond_true, cond_false, Int.toNat_natCast, hn1, hn3]
            iterate 14 (first | (refine And.intro ?_ ?_; · first | omega | assumption | (simp; done) | (intros; simp_all; done) | decide) | skip)
            refine hK _ _ _ ?_
            clear hK K
            refine awp_cond (b := _) (by simp only [go_sem, List.map_cons, List.map_nil, ↓reduceIte, Nat.reduceEqDiff, Nat.reduceLT, Nat.reduceSub, Nat.reduceAdd, Nat.reduceMul, implies_true, true_and, and_true, cond_true, cond_false]; rfl) (fun hb => ?_) (fun hb => ?_)  -- t190
            · skip
              have hx : badX s low m v e = true := by unfold badX; rw [hf, ← hcs]; exact hb
              have hq : collectsB s clock low l = false := by rw [hq0, ← hd, hx]; rfl
              refine awp_reg zs [8] fun K hK => ?_  -- region 30
              try simp only [go_sem, List.map_cons, List.map_nil, ↓reduceIte, Nat.reduceEqDiff, Nat.reduceLT, Nat.reduceSub, Nat.reduceAdd, Nat.reduceMul, implies_true, true_and, and_true, cond_true, cond_false]
              iterate 14 (first | (refine And.intro ?_ ?_; · first | omega | assumption | (simp; done) | (intros; simp_all; done) | decide) | skip)
              refine hK _ _ _ ?_
              clear hK K
              refine awp_ret ?_
              try simp only [go_sem, List.map_cons, List.map_nil, ↓reduceIte, Nat.reduceEqDiff, Nat.reduceLT, Nat.reduceSub, Nat.reduceAdd, Nat.reduceMul, implies_true, true_and, and_true, cond_true, cond_false]
              refine ⟨_, rfl, ?_, Frz.eq ?_ trivial⟩
              · intro k hk; have h0 : k ≠ n := by omega
                simp [Heap.put, h0]
              · rw [hq]; first | done | (congr 1; rw [Bool.eq_iff_iff]; simp; done) | (congr 1; rw [Bool.eq_iff_iff]; simp; omega)
            · skip
              have hx : badX s low m v e = false := by unfold badX; rw [hf, ← hcs]; exact hb
              refine awp_skip ?_
              try simp only [go_sem, List.map_cons, List.map_nil, ↓reduceIte, Nat.reduceEqDiff, Nat.reduceLT, Nat.reduceSub, Nat.reduceAdd, Nat.reduceMul, implies_true, true_and, and_true, cond_true, cond_false]
              refine hK5 _ _ _ ?_
              first | clear hK5 K5 | skip
              refine awp_reg1 zs [2, 4, 10, 12, 14, 15] fun K hK => ?_  -- region 11
              try simp only [go_sem, List.map_cons, List.map_nil, ↓reduceIte, Nat.reduceEqDiff, Nat.reduceLT, Nat.reduceSub, Nat.reduceAdd, Nat.reduceMul, implies_true, true_and, and_true, cond_true, cond_false]
              iterate 14 (first | (refine And.intro ?_ ?_; · first | omega | assumption | (simp; done) | (intros; simp_all; done) | decide) | skip)
              refine hK _ _ _ ?_
              clear hK K
              try simp only [go_sem, List.map_cons, List.map_nil, ↓reduceIte, Nat.reduceEqDiff, Nat.reduceLT, Nat.reduceSub, Nat.reduceAdd, Nat.reduceMul, implies_true, true_and, and_true, cond_true, cond_false]
              have hp9 : (if e.kind = 1 then 1 else 0) ≤ 1 := by split <;> omega
              refine ⟨⟨i + 1, p + (if e.kind = 1 then 1 else 0), by omega, by omega, by rw [Rt.w1 (by omega)], by rw [← hd, hx]; rfl, ?_⟩, by rw [Rt.w1 (by omega)]; simp; omega⟩
              rw [← hpu]; unfold putsOf; by_cases h9 : e.kind = 1 <;> simp [h9] <;> omega
      · skip
        have hge : i = m.length := by simp at hb; omega
        rw [hge, List.drop_length] at hd hpu
        have hq : collectsB s clock low l = decide (putsOf m = v.length) := by rw [hq0, ← hd]; rfl
        have hpp : p = putsOf m := by simpa [putsOf] using hpu
        refine awp_exit ?_
        try simp only [go_sem, List.map_cons, List.map_nil, ↓reduceIte, Nat.reduceEqDiff, Nat.reduceLT, Nat.reduceSub, Nat.reduceAdd, Nat.reduceMul, implies_true, true_and, and_true, cond_true, cond_false]
        refine hK3 _ _ _ ?_
        first | clear hK3 K3 | skip
        refine awp_reg zs [8] fun K hK => ?_  -- region 31
        try simp only [go_sem, List.map_cons, List.map_nil, ↓reduceIte, Nat.reduceEqDiff, Nat.reduceLT, Nat.reduceSub, Nat.reduceAdd, Nat.reduceMul, implies_true, true_and, and_true, cond_true, cond_false]
        iterate 14 (first | (refine And.intro ?_ ?_; · first | omega | assumption | (simp; done) | (intros; simp_all; done) | decide) | skip)
        refine hK _ _ _ ?_
        clear hK K
        refine awp_ret ?_
        try simp only [go_sem, List.map_cons, List.map_nil, ↓reduceIte, Nat.reduceEqDiff, Nat.reduceLT, Nat.reduceSub, Nat.reduceAdd, Nat.reduceMul, implies_true, true_and, and_true, cond_true, cond_false]
        refine ⟨_, rfl, ?_, Frz.eq ?_ trivial⟩
        · intro k hk; have h0 : k ≠ n := by omega
          simp [Heap.put, h0]
        · rw [hq]; first | done | (congr 1; rw [Bool.eq_iff_iff]; simp; done) | (congr 1; rw [Bool.eq_iff_iff]; simp; omega)


end Go.Proofs.Ytijhkfhflpmajaa
namespace Go.Proofs.Ytijhkfhflpmajaa
open Go Go.Sx Go.Rt

theorem prepE_alike {s : List Fml} {clock clock' : Int} {times times' : List Int} {k k' : Int} {l : List Ent} (h : (prepE s clock times k l).2 = 0) (hb : boundsE s clock' times' k' = 0) : prepE s clock' times' k' l = prepE s clock times k l := by
  have h1 := (prepE_zero h).1
  have e1 : ∀ {c ts kk}, boundsE s c ts kk = 0 → prepE s c ts kk l = if badsE s l ≠ 0 then ([], badsE s l) else sortedE l := fun h => by unfold prepE; rw [if_neg (by simp [h])]
  rw [e1 h1, e1 hb]
theorem boundsE_iff {s : List Fml} {clock : Int} {times : List Int} {k : Int} : boundsE s clock times k = 0 ↔ schemaE s = 0 ∧ timesBad (clock :: times) = false ∧ bout k 1 16 = false := by
  constructor
  · exact boundsE_zero
  · intro ⟨h1, h2, h3⟩; unfold boundsE; rw [if_neg (by simp [h1]), if_neg (by simp [h2]), if_neg (by simp [h3])]
theorem bounds_vis {s : List Fml} {clock : Int} {times : List Int} {k : Int} (h : boundsE s clock times k = 0) : boundsE s clock [1099511627776] 16 = 0 := by
  obtain ⟨h1, h2, _⟩ := boundsE_iff.1 h
  refine boundsE_iff.2 ⟨h1, ?_, rfl⟩
  simp only [timesBad, List.any_cons, List.any_nil, Bool.or_false, Bool.or_eq_false_iff] at h2 ⊢
  exact ⟨h2.1, rfl⟩
theorem max_of {s : List Fml} (h : schemaE s = 0) : ∀ f ∈ s, 1 ≤ f.max ∧ f.max ≤ 16 := by
  unfold schemaE at h
  split at h
  · exact absurd h (by decide)
  split at h
  · exact absurd h (by decide)
  rename_i h1 h2
  have key : ∀ (all l : List Fml) (i : Nat), famsBad all l i = false → ∀ f ∈ l, 1 ≤ f.max ∧ f.max ≤ 16 := by
    intro all l
    induction l with
    | nil => intro i _ f hf; cases hf
    | cons x l ih =>
      intro i h f hf
      rw [famsBad_cons] at h
      simp only [Bool.or_eq_false_iff] at h
      rcases List.mem_cons.1 hf with rfl | hf
      · have := h.1
        simp only [famBad, Bool.or_eq_false_iff] at this
        have := bout_false this.1.2
        omega
      · exact ih _ h.2 f hf
  exact key s s 0 (Bool.eq_false_iff.2 h2)
theorem famAt_mem {s : List Fml} {e : Ent} (h : checkedE s e = 0) : famAt s e.fam ∈ s := by
  obtain ⟨h1, h2⟩ := checkedE_zero h
  have h3 := bout_false ((chk_iff e).1 h1).fam
  have hlt : e.fam.toNat < s.length := by omega
  simp [famAt, List.getD, List.getElem?_eq_getElem hlt]
theorem ts_hi {s : List Fml} {e : Ent} (h : checkedE s e = 0) : e.ts ≤ 1099511627776 := by
  have := bout_false ((chk_iff e).1 (checkedE_zero h).1).ts; omega

/-- what is visible, of a list that stands ready -/
theorem vis_ok {s : List Fml} {clock : Int} {times : List Int} {k : Int} {l : List Ent} (h : (prepE s clock times k l).2 = 0) : visE s clock l = (visL s clock (prepE s clock times k l).1, 0) := by
  obtain ⟨ho, hc, hb, _⟩ := prep_ok h
  have hp := prepE_alike (k' := 16) (times' := [1099511627776]) h (bounds_vis hb)
  unfold visE readE
  rw [hp, if_neg (by simp [h]), shownOf_eq _ _ _ _ _ ho, RD_vis ho (fun e he => ts_hi (hc e he)) (fun e he => (max_of (boundsE_iff.1 hb).1 _ (famAt_mem (hc e he))).2) (by decide)]
theorem visE_zero {s : List Fml} {clock : Int} {l : List Ent} (h : (visE s clock l).2 = 0) : (prepE s clock [1099511627776] 16 l).2 = 0 := by
  unfold visE readE at h
  by_cases h0 : (prepE s clock [1099511627776] 16 l).2 = 0
  · exact h0
  · rw [if_pos h0] at h; exact h

/-- those of one Seq are one -/
theorem dd_seq {l d : List Ent} (h : ddE [] l = some d) {x y : Ent} (hx : x ∈ l) (hy : y ∈ l) (hs : x.seq = y.seq) : x = y := by
  have h1 := (ddE_mem l [] d h x).2 (.inr hx)
  have h2 := (ddE_mem l [] d h y).2 (.inr hy)
  have h3 := ddE_seq l [] d h List.Pairwise.nil
  by_cases he : x = y
  · exact he
  · exact absurd hs (pairwise_ne h3 h1 h2 he)
theorem ddE_some : ∀ (l acc : List Ent), (∀ x ∈ acc ++ l, ∀ y ∈ acc ++ l, x.seq = y.seq → x = y) → ∃ d, ddE acc l = some d := by
  intro l
  induction l with
  | nil => intro acc _; exact ⟨acc, rfl⟩
  | cons e l ih =>
    intro acc h
    rw [ddE]
    cases hs : seqOf acc e.seq with
    | none =>
      simp only
      exact ih _ fun x hx y hy => h x (by simpa using hx) y (by simpa using hy)
    | some x =>
      obtain ⟨h1, h2⟩ := seqOf_some hs
      have := h x (by simp [h1]) e (by simp) h2
      simp only [this, if_true]
      refine ih _ fun x hx y hy => h x ?_ y ?_
      · rcases List.mem_append.1 hx with h | h <;> simp [h]
      · rcases List.mem_append.1 hy with h | h <;> simp [h]
theorem sortedE_zero {l : List Ent} : (sortedE l).2 = 0 ↔ ∃ d, ddE [] l = some d := by
  unfold sortedE
  cases h : ddE [] l with
  | none => simp
  | some d => simp
theorem badsE_iff {s : List Fml} {l : List Ent} : badsE s l = 0 ↔ ∀ e ∈ l, checkedE s e = 0 := ⟨badsE_fits s l, badsE_all⟩
/-- what stands ready: its parts do too -/
theorem prep_zero_iff {s : List Fml} {clock : Int} {times : List Int} {k : Int} {l : List Ent} : (prepE s clock times k l).2 = 0 ↔ boundsE s clock times k = 0 ∧ (∀ e ∈ l, checkedE s e = 0) ∧ ∀ x ∈ l, ∀ y ∈ l, x.seq = y.seq → x = y := by
  constructor
  · intro h
    obtain ⟨h1, h2, h3, _⟩ := prepE_zero h
    rw [h3] at h
    obtain ⟨d, hd⟩ := sortedE_zero.1 h
    exact ⟨h1, badsE_iff.1 h2, fun x hx y hy => dd_seq hd hx hy⟩
  · intro ⟨h1, h2, h3⟩
    unfold prepE
    rw [if_neg (by simp [h1]), if_neg (by simp [badsE_iff.2 h2])]
    exact sortedE_zero.2 (ddE_some l [] (by simpa using h3))

theorem nbackB_true (s : List Fml) (clock more : Int) (a b : List Ent) : nbackB s clock more a b = true := by
  unfold nbackB
  cases he : earlyB s clock more a b with
  | true => rfl
  | false =>
    simp only [cond_false]
    unfold earlyB at he
    simp only [cond_or, Bool.or_eq_false_iff, decide_eq_false_iff_not, Bool.not_eq_false', beq_iff_eq] at he
    obtain ⟨⟨⟨⟨⟨h1, h2⟩, h3⟩, h4⟩, _⟩, h6⟩ := he
    have hw : IntKind.i64.wrap (1099511627776 - clock) = 1099511627776 - clock := w64 (by omega) (by omega)
    rw [hw] at h4
    have hw2 : IntKind.i64.wrap (clock + more) = clock + more := w64 (by omega) (by omega)
    rw [hw2]
    have hM := visE_zero h6
    obtain ⟨p1, p2, p3⟩ := prep_zero_iff.1 hM
    have hA : (prepE s clock [1099511627776] 16 a).2 = 0 := prep_zero_iff.2 ⟨p1, fun e he => p2 e (by simp [he]), fun x hx y hy => p3 x (by simp [hx]) y (by simp [hy])⟩
    have hb' : boundsE s (clock + more) [1099511627776] 16 = 0 := by
      obtain ⟨q1, q2, q3⟩ := boundsE_iff.1 p1
      refine boundsE_iff.2 ⟨q1, ?_, q3⟩
      simp only [timesBad, List.any_cons, List.any_nil, Bool.or_false, Bool.or_eq_false_iff]
      exact ⟨by simp [bout]; omega, rfl⟩
    have hM' : (prepE s (clock + more) [1099511627776] 16 (a ++ b)).2 = 0 := prep_zero_iff.2 ⟨hb', p2, p3⟩
    rw [vis_ok hA, vis_ok hM']
    simp only [bne_self_eq_false, cond_false]
    rw [Bool.not_eq_true', List.any_eq_false]
    intro e hea hx
    unfold backX at hx
    simp only [cond_and, Bool.and_eq_true, beq_iff_eq, Bool.not_eq_true'] at hx
    obtain ⟨⟨hk, hnv⟩, hw'⟩ := hx
    obtain ⟨oa, ca, _, ma⟩ := prep_ok hA
    obtain ⟨oM, cM, _, mM⟩ := prep_ok hM'
    have heM : e ∈ (prepE s (clock + more) [1099511627776] 16 (a ++ b)).1 := (mM e).2 (by simp [hea])
    have hem : e ∈ (prepE s clock [1099511627776] 16 a).1 := (ma e).2 hea
    unfold shownB at hw' hnv
    rw [List.any_eq_true] at hw'
    obtain ⟨x, hx, hxe⟩ := hw'
    obtain ⟨hxM, hxv⟩ := List.mem_filter.1 hx
    have hxv : vis s (clock + more) (prepE s (clock + more) [1099511627776] 16 (a ++ b)).1 x := by simpa using hxv
    have hse : x.seq = e.seq := by unfold shownX at hxe; simp at hxe; exact hxe.1.1.1.2
    have : x = e := by
      by_cases h : x = e
      · exact h
      · exact absurd hse (pairwise_ne oM.seq hxM heM h)
    subst this
    have hv := vis_back (clock := clock) (clock' := clock + more) oa (M := (prepE s (clock + more) [1099511627776] 16 (a ++ b)).1) (fun y hy => (mM y).2 (by simp [(ma y).1 hy])) (by omega)
      (fun y hy => (ttl_of (boundsE_iff.1 hb').1 _ (famAt_mem (cM y hy))).1) hem hk hxv
    rw [List.any_eq_false] at hnv
    exact hnv x (List.mem_filter.2 ⟨hem, by simpa using hv⟩) (by simp [shownX])

theorem shownG_len (f : List Fml) (st : SSt) (d : Dec) : (shownG f st d).out.length ≤ st.out.length + 1 := by
  unfold shownG; repeat' split
  all_goals simp
theorem readE_length (s : List Fml) (clock t n : Int) (l : List Ent) : (readE s clock t n l).1.length ≤ 2 * l.length + 1 := by
  unfold readE
  split
  · simp
  · rename_i h
    obtain ⟨_, _, _, _, hlen⟩ := prepE_zero (by simpa using h)
    have h2 := evP_len (prepE s clock [t] n l).1 (wlk0 s clock)
    have h1 : ∀ (v : List Ev) (st : SSt), (v.foldl (evT (shownG s) id fun st _ _ => st) st).out.length ≤ st.out.length + v.length := by
      intro v
      induction v with
      | nil => intro st; simp
      | cons x v ih =>
        intro st
        rw [List.foldl_cons]
        have h3 := ih (evT (shownG s) id (fun st _ _ => st) st x)
        have h4 : (evT (shownG s) id (fun st _ _ => st) st x).out.length ≤ st.out.length + 1 := by
          cases x with
          | g d => exact shownG_len s st d
          | o => show st.out.length ≤ _; omega
          | m e b => show st.out.length ≤ _; omega
        simp only [List.length_cons]; omega
    have h5 := h1 (evP (prepE s clock [t] n l).1 (wlk0 s clock)) (sst0 t n)
    have h6 : (sst0 t n).out.length = 0 := rfl
    show (shownOf s clock t n _).out.length ≤ _
    unfold shownOf
    omega
theorem visE_length (s : List Fml) (clock : Int) (l : List Ent) : (visE s clock l).1.length ≤ 2 * l.length + 1 := readE_length s clock _ _ l
end Go.Proofs.Ytijhkfhflpmajaa


namespace Go.Proofs.Ytijhkfhflpmajaa
open Go Go.Sx Go.Rt Classical

theorem filter_flat_eq {s : List Fml} {clock : Int} {mj : Bool} {low : Int} {m : List Ent} {P Q : Ent → Prop} [DecidablePred P] [DecidablePred Q] : ∀ (l : List Ent), (∀ z ∈ l, keeps s clock mj low m z ∧ P (form m z) ↔ Q z) →
    ((l.flatMap (keepD s clock mj low m)).filter fun x => decide (P x)).length = (l.filter fun x => decide (Q x)).length
  | [], _ => by simp
  | e :: l, h => by
    have ih := filter_flat_eq l fun z hz => h z (by simp [hz])
    have h0 := h e (by simp)
    rw [List.flatMap_cons, List.filter_append, List.length_append, ih, List.filter_cons]
    unfold keepD
    by_cases hk : keeps s clock mj low m e
    · rw [if_pos hk]
      by_cases hp : P (form m e)
      · have hq := h0.1 ⟨hk, hp⟩
        simp [hp, hq]; omega
      · have hq : ¬ Q e := fun hq => hp (h0.2 hq).2
        simp [hp, hq]
    · rw [if_neg hk]
      have hq : ¬ Q e := fun hq => hk (h0.2 hq).1
      simp [hq]

/-- the last in order of some -/
theorem last_of : ∀ (l : List Ent), l ≠ [] → (l.Pairwise fun a b => compE a b < 0) → ∃ x ∈ l, ∀ y ∈ l, y = x ∨ compE y x < 0 := by
  intro l hne hp
  rcases List.eq_nil_or_concat l with h | ⟨l', x, rfl⟩
  · exact absurd h hne
  · refine ⟨x, by simp, fun y hy => ?_⟩
    have h1 : (l' ++ [x]).Pairwise fun a b => compE a b < 0 := by simpa using hp
    have hy : y ∈ l' ∨ y = x := by simpa using hy
    rcases hy with h | h
    · exact .inr ((List.pairwise_append.1 h1).2.2 y h x (by simp))
    · exact .inl h

theorem sibX_iff (e x : Ent) : sibX e x = true ↔ x.kind ≤ 2 ∧ e.kind ≤ 2 ∧ mates x e := by
  unfold sibX
  simp only [cond_and, Bool.and_eq_true, decide_eq_true_eq, beq_iff_eq]
  exact ⟨fun ⟨⟨⟨⟨a, b⟩, c⟩, d⟩, f⟩ => ⟨a, b, ⟨c, d⟩, f⟩, fun ⟨a, b, ⟨c, d⟩, f⟩ => ⟨⟨⟨⟨a, b⟩, c⟩, d⟩, f⟩⟩

theorem collectsB_true (s : List Fml) (clock low : Int) (l : List Ent) : collectsB s clock low l = true := by
  unfold collectsB
  by_cases h : (prepE s clock [low] 1 l).2 = 0
  · obtain ⟨ho, hc, hb, _⟩ := prep_ok h
    have hsch := (boundsE_iff.1 hb).1
    rw [squash_ok h, vis_ok h]
    simp only [bne_self_eq_false, cond_false]
    generalize (prepE s clock [low] 1 l).1 = m at *
    generalize hT : m.flatMap (keepD s clock true low m) = T
    have hTo : InOrder T := by rw [← hT]; exact inOrder_T ho
    have memT : ∀ x, x ∈ T ↔ ∃ y ∈ m, keeps s clock true low m y ∧ x = form m y := fun x => by rw [← hT]; exact mem_T
    -- a put, a husk: what it was
    have low2 : ∀ y ∈ m, keeps s clock true low m y → (form m y).kind ≤ 2 → ver y ∧ counted s clock m y ∧ (above s clock m y : Int) < (famAt s y.fam).max := by
      intro y hy hk hl
      have hv : ver y := by
        rcases form_cases m y with ⟨h1, _⟩ | ⟨_, h2, _⟩
        · rw [h1] at hl; exact ⟨by omega, by omega⟩
        · exact h2
      obtain ⟨k1, k2, k3⟩ := (keeps_ver hv).1 hk
      by_cases hlo : Rt.lone m y
      · rw [if_pos hlo] at k3; simp at k3
      · rw [if_neg hlo] at k3; exact ⟨hv, ⟨k1, k2, hlo⟩, k3⟩
    have hbad : T.any (badX s low T (visL s clock m)) = false := by
      rw [List.any_eq_false]
      intro e' he' hx
      obtain ⟨e, he, hk, rfl⟩ := (memT e').1 he'
      have hl := form_like m e
      have hce := hc e he
      have hfm := famAt_mem hce
      have hmx := max_of hsch _ hfm
      have hchk := (chk_iff e).1 (checkedE_zero hce).1
      have hfam : famX s (form m e) = false := by
        unfold famX
        have h1 := bout_false hchk.fam
        have h2 := (checkedE_zero hce).2
        rw [hl.fam]
        have h3 : ¬ e.fam < 0 := by omega
        have h4 : ¬ (s.length : Int) ≤ e.fam := by omega
        simp [h3, h4]
      have hok : okX low (visL s clock m) (form m e) = true := by
        unfold okX
        by_cases k1 : (form m e).kind = 1
        · rw [if_pos k1]
          obtain ⟨hv, hcn, hab⟩ := low2 e he hk (by omega)
          have hfe : form m e = e := by
            rcases form_cases m e with ⟨h1, _⟩ | ⟨h1, _⟩
            · exact h1
            · rw [h1] at k1; simp [hsk] at k1
          rw [hfe] at k1 ⊢
          unfold shownB
          rw [List.any_eq_true]
          exact ⟨e, List.mem_filter.2 ⟨he, by simp [vis, hcn, hab, k1]⟩, by simp [shownX]⟩
        · rw [if_neg k1]
          by_cases k2 : (form m e).kind = 2
          · rw [if_pos k2]
            rcases form_cases m e with ⟨h1, _⟩ | ⟨h1, _⟩
            · rw [h1] at k2 ⊢
              have hv := hchk.v
              unfold badV at hv
              by_cases h4 : (4096 : Int) < e.value.length
              · simp [h4] at hv
              · simp [h4, k2] at hv
                simp [hv]
            · rw [h1]; rfl
          · rw [if_neg k2]
            by_cases k3 : (form m e).kind = 3
            · exfalso
              rcases form_cases m e with ⟨h1, h2⟩ | ⟨h1, _⟩
              · rw [h1] at k3
                have hv : ver e := ⟨by omega, by omega⟩
                obtain ⟨_, _, k4⟩ := (keeps_ver hv).1 hk
                by_cases hlo : Rt.lone m e
                · rw [if_pos hlo] at k4; simp at k4
                · exact h2 ⟨hv, hlo, .inr k3⟩
              · rw [h1] at k3; simp [hsk] at k3
            · rw [if_neg k3]
              have hnv : e.kind = 4 ∨ e.kind = 5 := by
                have hkb := bout_false hchk.kind
                by_cases h4 : e.kind = 4
                · exact .inl h4
                · by_cases h5 : e.kind = 5
                  · exact .inr h5
                  · exfalso
                    rcases form_cases m e with ⟨h1, _⟩ | ⟨h1, _⟩
                    · rw [h1] at k1 k2 k3; omega
                    · rw [h1] at k2; simp [hsk] at k2
              rw [hl.ts]
              unfold keeps at hk
              rcases hnv with h4 | h5
              · rw [if_neg (by omega), if_pos h4] at hk
                have := hk.2
                simp only [true_and] at this
                simpa using this
              · rw [if_pos h5] at hk
                have := hk.2
                simp only [true_and] at this
                simpa using this
      unfold badX at hx
      rw [hfam, hok] at hx
      simp only [Bool.not_true, cond_false, Bool.false_or, cond_and, Bool.and_eq_true, decide_eq_true_eq] at hx
      obtain ⟨hk2, hlt⟩ := hx
      rw [hl.fam] at hlt
      -- the siblings, and the last of them
      have hsib : (sibs T (form m e) : Int) ≤ (famAt s e.fam).max := by
        have hF0 : ∀ x ∈ T.filter (sibX (form m e)), x ∈ T ∧ x.kind ≤ 2 ∧ mates x (form m e) := fun x hx => by
          obtain ⟨h1, h2⟩ := List.mem_filter.1 hx
          obtain ⟨a, _, b⟩ := (sibX_iff _ _).1 h2
          exact ⟨h1, a, b⟩
        have hne : T.filter (sibX (form m e)) ≠ [] := by
          have : form m e ∈ T.filter (sibX (form m e)) := List.mem_filter.2 ⟨he', (sibX_iff _ _).2 ⟨hk2, hk2, .refl _⟩⟩
          intro h; rw [h] at this; cases this
        obtain ⟨x, hx, hlast⟩ := last_of _ hne (hTo.srt.sublist List.filter_sublist)
        obtain ⟨hxT, hx2, hxm⟩ := hF0 x hx
        obtain ⟨z, hz, hkz, rfl⟩ := (memT x).1 hxT
        obtain ⟨hvz, hcz, haz⟩ := low2 z hz hkz hx2
        have hlz := form_like m z
        have hfz : z.fam = e.fam := by have := hxm.1.1; rw [hlz.fam, hl.fam] at this; exact this
        rw [hfz] at haz
        have h1 : sibs T (form m e) ≤ (T.filter fun y => decide (y.kind ≤ 2 ∧ mates y (form m z) ∧ (form m z).ts < y.ts)).length + 1 := by
          unfold sibs
          have hsplit := count_split (p := T) (A := fun y => y.kind ≤ 2 ∧ mates y (form m e)) (B := fun y => y.kind ≤ 2 ∧ mates y (form m z) ∧ (form m z).ts < y.ts) (C := fun y => y = form m z ∧ True)
            (fun y hy => by
              constructor
              · rintro ⟨a, b⟩
                have hyF : y ∈ T.filter (sibX (form m e)) := List.mem_filter.2 ⟨hy, (sibX_iff _ _).2 ⟨a, hk2, b⟩⟩
                rcases hlast y hyF with h | h
                · exact .inr ⟨h, trivial⟩
                · have hmt := b.trans hxm.symm
                  left
                  refine ⟨a, hmt, ?_⟩
                  obtain ⟨u, hu, hku, rfl⟩ := (memT y).1 hy
                  obtain ⟨hvu, hcu, _⟩ := low2 u hu hku a
                  have hlu := form_like m u
                  have hvu' := hlu.ver.2 hvu
                  have hvz' := hlz.ver.2 hvz
                  rcases newer_first h hmt ⟨fun h => absurd h hvu'.2, fun h => absurd h hvz'.2⟩ ⟨fun h => absurd h hvu'.1, fun h => absurd h hvz'.1⟩ with h9 | h9
                  · exact h9
                  · have h8 : u = z := counted_ts ho hu hz hcu hcz ((hlu.mate hlz).1 hmt) (by rw [← hlu.ts, ← hlz.ts]; exact h9.1.symm)
                    subst h8
                    exact absurd h (comp_irr _)
              · rintro (⟨a, b, _⟩ | ⟨rfl, _⟩)
                · exact ⟨a, b.trans hxm⟩
                · exact ⟨hx2, hxm⟩)
            (fun y _ ⟨⟨_, _, a⟩, ⟨b, _⟩⟩ => by subst b; omega)
          have hsame : (T.filter (sibX (form m e))).length = (T.filter fun y => decide (y.kind ≤ 2 ∧ mates y (form m e))).length := by
            congr 1
            refine List.filter_congr fun y _ => ?_
            rw [Bool.eq_iff_iff, sibX_iff, decide_eq_true_eq]
            exact ⟨fun ⟨a, _, b⟩ => ⟨a, b⟩, fun ⟨a, b⟩ => ⟨a, hk2, b⟩⟩
          rw [hsame, hsplit]
          have hone := count_one (p := T) hTo.seq hxT True
          have e9 : (T.filter fun y => decide (y = form m z ∧ True)).length = 1 := by rw [hone]; simp
          rw [e9]
          exact Nat.le_refl _
        have h2 : (T.filter fun y => decide (y.kind ≤ 2 ∧ mates y (form m z) ∧ (form m z).ts < y.ts)).length ≤ above s clock m z := by
          unfold above
          rw [← hT]
          refine filter_flat m fun u hu hku ⟨a, b, c⟩ => ?_
          have hlu := form_like m u
          obtain ⟨hvu, hcu, _⟩ := low2 u hu hku a
          exact ⟨hcu, (hlu.mate hlz).1 b, by rw [← hlu.ts, ← hlz.ts]; exact c⟩
        omega
      omega
    rw [hbad]
    simp only [cond_false]
    rw [decide_eq_true_eq]
    unfold putsOf visL
    have e1 : (T.filter fun e => e.kind == 1).length = (T.filter fun e => decide (e.kind = 1)).length := by
      congr 1
    rw [e1, ← hT]
    refine filter_flat_eq m fun z hz => ?_
    constructor
    · rintro ⟨hk, h1⟩
      obtain ⟨hv, hcn, hab⟩ := low2 z hz hk (by omega)
      have hfe : form m z = z := by
        rcases form_cases m z with ⟨h, _⟩ | ⟨h, _⟩
        · exact h
        · rw [h] at h1; simp [hsk] at h1
      rw [hfe] at h1
      exact ⟨hcn, hab, by omega, by omega⟩
    · rintro ⟨hcn, hab, h2, h3⟩
      have hv := hcn.1.1
      have hkb := bout_false ((chk_iff z).1 (checkedE_zero (hc z hz)).1).kind
      have hk1 : z.kind = 1 := by have := hv.1; have := hv.2; omega
      have hfe : form m z = z := by
        rcases form_cases m z with ⟨h, _⟩ | ⟨_, _, _, h⟩
        · exact h
        · omega
      refine ⟨(keeps_ver hv).2 ⟨hcn.1, hcn.2.1, ?_⟩, by rw [hfe]; exact hk1⟩
      rw [if_neg hcn.2.2]; exact hab
  · have hsq : squashE s clock true low l = ([], (prepE s clock [low] 1 l).2) := by unfold squashE; rw [if_pos h]
    rw [hsq]
    have : ((prepE s clock [low] 1 l).2 != 0) = true := by simpa using h
    simp only [this, cond_true]
    rfl
end Go.Proofs.Ytijhkfhflpmajaa

