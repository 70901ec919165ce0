/- Own layer: the walks through the laws of squashing: agree, nothing back, never seen, major unseen. Of the program; no condition. -/
import Derived.Test.YtijhkfhflpmajaaKG
import Derived.Test.YtijhkfhflpmajaaKB
import Derived.Test.YtijhkfhflpmajaaKC
set_option linter.unusedSimpArgs false
set_option linter.unusedVariables false
namespace Go.Proofs.Ytijhkfhflpmajaa
open Go Go.Sx Go.Rt Go.Proofs

theorem squashE_fits (s : List Fml) (clock low : Int) (major : Bool) (l : List Ent) : ∀ e ∈ (squashE s clock major low l).1, e.fits := by
  by_cases h : (prepE s clock [low] 1 l).2 = 0
  · rw [squash_ok h]
    intro e he
    obtain ⟨y, hy, _, rfl⟩ := mem_T.1 he
    exact fits_of (checkedE_zero (checked_form ((prep_ok h).2.1 y hy))).1
  · unfold squashE; rw [if_pos h]; intro e he; cases he

def agreeB (s : List Fml) (clock t n : Int) (a b : List Ent) : Bool :=
  bif (bif (bif (bif (bif (readE s clock t n a).2 != (readE s clock t n b).2 then true else (visE s clock a).2 != 0) then true else (visE s clock b).2 != 0) then true else (topE s clock a).2 != 0) then true else (topE s clock b).2 != 0) then false
  else bif (bif decide ((readE s clock t n a).1 = (readE s clock t n b).1) then decide ((visE s clock a).1 = (visE s clock b).1) else false) then (topE s clock a).1 == (topE s clock b).1 else false

set_option maxHeartbeats 1600000 in
theorem c_law_agree (s : List Fml) (clock t vn : Int) (a b : List Ent) (ha : a.length ≤ 100000000) (hb9 : b.length ≤ 100000000) (hr : (readE s clock t vn a).1.length < 4611686018427387904) (hv : (visE s clock a).1.length < 4611686018427387904) (H : Heap) (n : Nat) :
    Ret Try.prog 17 [schAV s, .int .i64 clock, .int .i64 t, .int .i64 vn, entsAV a, entsAV b] H n (.bool (agreeB s clock t vn a b)) H n := by
  refine Ret.fin ?_
  refine acalls_of_awp Try.func17 rfl Try.ntmps17 (congrArg Array.toList Try.results17) (by simp) ?_
  simp only [go_sem]
  refine awp_reg zs [1, 2, 3, 4, 5, 6] fun K hK => ?_  -- region 0
  try simp only [go_sem, List.map_cons, List.map_nil, ↓reduceIte, Nat.reduceEqDiff, Nat.reduceLT, Nat.reduceSub, Nat.reduceAdd, Nat.reduceMul, implies_true, true_and, and_true, cond_true, cond_false]
  iterate 14 (first | (refine And.intro ?_ ?_; · first | omega | assumption | (simp; done) | (intros; simp_all; done) | decide) | skip)
  refine hK _ _ _ ?_
  clear hK K
  refine awp_reg zs [1, 2, 3, 4, 5, 6, 13, 14] fun K hK => ?_  -- region 1
  try simp only [go_sem, List.map_cons, List.map_nil, ↓reduceIte, Nat.reduceEqDiff, Nat.reduceLT, Nat.reduceSub, Nat.reduceAdd, Nat.reduceMul, implies_true, true_and, and_true, cond_true, cond_false]
  iterate 14 (first | (refine And.intro ?_ ?_; · first | omega | assumption | (simp; done) | (intros; simp_all; done) | decide) | skip)
  refine callK_use Try.func24 rfl rfl rfl ((c_retain_Read s clock t vn a ha _ _)) ?_
  try simp only [go_sem, List.map_cons, List.map_nil, ↓reduceIte, Nat.reduceEqDiff, Nat.reduceLT, Nat.reduceSub, Nat.reduceAdd, Nat.reduceMul, implies_true, true_and, and_true, cond_true, cond_false]
  iterate 14 (first | (refine And.intro ?_ ?_; · first | omega | assumption | (simp; done) | (intros; simp_all; done) | decide) | skip)
  refine hK _ _ _ ?_
  clear hK K
  refine awp_reg zs [1, 4, 5, 6, 13, 14, 15, 16] fun K hK => ?_  -- region 2
  try simp only [go_sem, List.map_cons, List.map_nil, ↓reduceIte, Nat.reduceEqDiff, Nat.reduceLT, Nat.reduceSub, Nat.reduceAdd, Nat.reduceMul, implies_true, true_and, and_true, cond_true, cond_false]
  iterate 14 (first | (refine And.intro ?_ ?_; · first | omega | assumption | (simp; done) | (intros; simp_all; done) | decide) | skip)
  refine callK_use Try.func24 rfl rfl rfl ((c_retain_Read s clock t vn b hb9 _ _)) ?_
  try simp only [go_sem, List.map_cons, List.map_nil, ↓reduceIte, Nat.reduceEqDiff, Nat.reduceLT, Nat.reduceSub, Nat.reduceAdd, Nat.reduceMul, implies_true, true_and, and_true, cond_true, cond_false]
  iterate 14 (first | (refine And.intro ?_ ?_; · first | omega | assumption | (simp; done) | (intros; simp_all; done) | decide) | skip)
  refine hK _ _ _ ?_
  clear hK K
  refine awp_reg zs [1, 4, 5, 6, 13, 14, 15, 16, 17, 18] fun K hK => ?_  -- region 3
  try simp only [go_sem, List.map_cons, List.map_nil, ↓reduceIte, Nat.reduceEqDiff, Nat.reduceLT, Nat.reduceSub, Nat.reduceAdd, Nat.reduceMul, implies_true, true_and, and_true, cond_true, cond_false]
  iterate 14 (first | (refine And.intro ?_ ?_; · first | omega | assumption | (simp; done) | (intros; simp_all; done) | decide) | skip)
  refine callK_use Try.func19 rfl rfl rfl ((c_retain_Vis s clock a ha _ _)) ?_
  try simp only [go_sem, List.map_cons, List.map_nil, ↓reduceIte, Nat.reduceEqDiff, Nat.reduceLT, Nat.reduceSub, Nat.reduceAdd, Nat.reduceMul, implies_true, true_and, and_true, cond_true, cond_false]
  iterate 14 (first | (refine And.intro ?_ ?_; · first | omega | assumption | (simp; done) | (intros; simp_all; done) | decide) | skip)
  refine hK _ _ _ ?_
  clear hK K
  refine awp_reg zs [1, 4, 5, 6, 13, 14, 15, 16, 17, 18, 19, 20] fun K hK => ?_  -- region 4
  try simp only [go_sem, List.map_cons, List.map_nil, ↓reduceIte, Nat.reduceEqDiff, Nat.reduceLT, Nat.reduceSub, Nat.reduceAdd, Nat.reduceMul, implies_true, true_and, and_true, cond_true, cond_false]
  iterate 14 (first | (refine And.intro ?_ ?_; · first | omega | assumption | (simp; done) | (intros; simp_all; done) | decide) | skip)
  refine callK_use Try.func19 rfl rfl rfl ((c_retain_Vis s clock b hb9 _ _)) ?_
  try simp only [go_sem, List.map_cons, List.map_nil, ↓reduceIte, Nat.reduceEqDiff, Nat.reduceLT, Nat.reduceSub, Nat.reduceAdd, Nat.reduceMul, implies_true, true_and, and_true, cond_true, cond_false]
  iterate 14 (first | (refine And.intro ?_ ?_; · first | omega | assumption | (simp; done) | (intros; simp_all; done) | decide) | skip)
  refine hK _ _ _ ?_
  clear hK K
  refine awp_reg zs [1, 5, 6, 13, 14, 15, 16, 17, 18, 19, 20, 21, 22] fun K hK => ?_  -- region 5
  try simp only [go_sem, List.map_cons, List.map_nil, ↓reduceIte, Nat.reduceEqDiff, Nat.reduceLT, Nat.reduceSub, Nat.reduceAdd, Nat.reduceMul, implies_true, true_and, and_true, cond_true, cond_false]
  iterate 14 (first | (refine And.intro ?_ ?_; · first | omega | assumption | (simp; done) | (intros; simp_all; done) | decide) | skip)
  refine callK_use Try.func40 rfl rfl rfl ((c_retain_Top s clock a ha _ _)) ?_
  try simp only [go_sem, List.map_cons, List.map_nil, ↓reduceIte, Nat.reduceEqDiff, Nat.reduceLT, Nat.reduceSub, Nat.reduceAdd, Nat.reduceMul, implies_true, true_and, and_true, cond_true, cond_false]
  iterate 14 (first | (refine And.intro ?_ ?_; · first | omega | assumption | (simp; done) | (intros; simp_all; done) | decide) | skip)
  refine hK _ _ _ ?_
  clear hK K
  refine awp_reg zs [13, 14, 15, 16, 17, 18, 19, 20, 21, 22, 23, 24] fun K hK => ?_  -- region 6
  try simp only [go_sem, List.map_cons, List.map_nil, ↓reduceIte, Nat.reduceEqDiff, Nat.reduceLT, Nat.reduceSub, Nat.reduceAdd, Nat.reduceMul, implies_true, true_and, and_true, cond_true, cond_false]
  iterate 14 (first | (refine And.intro ?_ ?_; · first | omega | assumption | (simp; done) | (intros; simp_all; done) | decide) | skip)
  refine callK_use Try.func40 rfl rfl rfl ((c_retain_Top s clock b hb9 _ _)) ?_
  try simp only [go_sem, List.map_cons, List.map_nil, ↓reduceIte, Nat.reduceEqDiff, Nat.reduceLT, Nat.reduceSub, Nat.reduceAdd, Nat.reduceMul, implies_true, true_and, and_true, cond_true, cond_false]
  iterate 14 (first | (refine And.intro ?_ ?_; · first | omega | assumption | (simp; done) | (intros; simp_all; done) | decide) | skip)
  refine hK _ _ _ ?_
  clear hK K
  refine awp_seq_k fun K1 hK1 => ?_
  refine awp_reg zs [13, 15, 17, 19, 21, 23, 95] fun K hK => ?_  -- region 7
  try simp only [go_sem, List.map_cons, List.map_nil, ↓reduceIte, Nat.reduceEqDiff, Nat.reduceLT, Nat.reduceSub, Nat.reduceAdd, Nat.reduceMul, implies_true, true_and, and_true, cond_true, cond_false]
  iterate 14 (first | (refine And.intro ?_ ?_; · first | omega | assumption | (simp; done) | (intros; simp_all; done) | decide) | skip)
  refine callK_use Try.func16 rfl rfl rfl ((by apply c_law_num <;> first | assumption | omega)) ?_
  try simp only [go_sem, List.map_cons, List.map_nil, ↓reduceIte, Nat.reduceEqDiff, Nat.reduceLT, Nat.reduceSub, Nat.reduceAdd, Nat.reduceMul, implies_true, true_and, and_true, cond_true, cond_false]
  iterate 14 (first | (refine And.intro ?_ ?_; · first | omega | assumption | (simp; done) | (intros; simp_all; done) | decide) | skip)
  refine callK_use Try.func16 rfl rfl rfl ((by apply c_law_num <;> first | assumption | omega)) ?_
  try simp only [go_sem, List.map_cons, List.map_nil, ↓reduceIte, Nat.reduceEqDiff, Nat.reduceLT, Nat.reduceSub, Nat.reduceAdd, Nat.reduceMul, implies_true, true_and, and_true, cond_true, cond_false]
  iterate 14 (first | (refine And.intro ?_ ?_; · first | omega | assumption | (simp; done) | (intros; simp_all; done) | decide) | skip)
  refine callG_use Try.func16 rfl rfl rfl (fun _ => (by apply c_law_num <;> first | assumption | omega)) ?_
  try simp only [go_sem, List.map_cons, List.map_nil, ↓reduceIte, Nat.reduceEqDiff, Nat.reduceLT, Nat.reduceSub, Nat.reduceAdd, Nat.reduceMul, implies_true, true_and, and_true, cond_true, cond_false]
  iterate 14 (first | (refine And.intro ?_ ?_; · first | omega | assumption | (simp; done) | (intros; simp_all; done) | decide) | skip)
  refine callG_use Try.func16 rfl rfl rfl (fun _ => (by apply c_law_num <;> first | assumption | omega)) ?_
  try simp only [go_sem, List.map_cons, List.map_nil, ↓reduceIte, Nat.reduceEqDiff, Nat.reduceLT, Nat.reduceSub, Nat.reduceAdd, Nat.reduceMul, implies_true, true_and, and_true, cond_true, cond_false]
  iterate 14 (first | (refine And.intro ?_ ?_; · first | omega | assumption | (simp; done) | (intros; simp_all; done) | decide) | skip)
  refine callG_use Try.func16 rfl rfl rfl (fun _ => (by apply c_law_num <;> first | assumption | omega)) ?_
  try simp only [go_sem, List.map_cons, List.map_nil, ↓reduceIte, Nat.reduceEqDiff, Nat.reduceLT, Nat.reduceSub, Nat.reduceAdd, Nat.reduceMul, implies_true, true_and, and_true, cond_true, cond_false]
  iterate 14 (first | (refine And.intro ?_ ?_; · first | omega | assumption | (simp; done) | (intros; simp_all; done) | decide) | skip)
  refine callG_use Try.func16 rfl rfl rfl (fun _ => (by apply c_law_num <;> first | assumption | omega)) ?_
  try simp only [go_sem, List.map_cons, List.map_nil, ↓reduceIte, Nat.reduceEqDiff, Nat.reduceLT, Nat.reduceSub, Nat.reduceAdd, Nat.reduceMul, implies_true, true_and, and_true, cond_true, cond_false]
  iterate 14 (first | (refine And.intro ?_ ?_; · first | omega | assumption | (simp; done) | (intros; simp_all; done) | decide) | skip)
  refine hK _ _ _ ?_
  clear hK K
  refine awp_cond (b := _) (by simp only [go_sem, List.map_cons, List.map_nil, ↓reduceIte, Nat.reduceEqDiff, Nat.reduceLT, Nat.reduceSub, Nat.reduceAdd, Nat.reduceMul, implies_true, true_and, and_true, cond_true, cond_false]; rfl) (fun hb => ?_) (fun hb => ?_)  -- t95
  · skip
    refine awp_reg zs [12] fun K hK => ?_  -- region 8
    try simp only [go_sem, List.map_cons, List.map_nil, ↓reduceIte, Nat.reduceEqDiff, Nat.reduceLT, Nat.reduceSub, Nat.reduceAdd, Nat.reduceMul, implies_true, true_and, and_true, cond_true, cond_false]
    iterate 14 (first | (refine And.intro ?_ ?_; · first | omega | assumption | (simp; done) | (intros; simp_all; done) | decide) | skip)
    refine hK _ _ _ ?_
    clear hK K
    refine awp_ret ?_
    try simp only [go_sem, List.map_cons, List.map_nil, ↓reduceIte, Nat.reduceEqDiff, Nat.reduceLT, Nat.reduceSub, Nat.reduceAdd, Nat.reduceMul, implies_true, true_and, and_true, cond_true, cond_false]
    refine ⟨_, rfl, ?_, Frz.eq ?_ trivial⟩
    · intro k hk; have h0 : k ≠ n := by omega
      simp [Heap.put, h0]
    · unfold agreeB; rw [hb]; rfl
  · skip
    refine awp_skip ?_
    try simp only [go_sem, List.map_cons, List.map_nil, ↓reduceIte, Nat.reduceEqDiff, Nat.reduceLT, Nat.reduceSub, Nat.reduceAdd, Nat.reduceMul, implies_true, true_and, and_true, cond_true, cond_false]
    refine hK1 _ _ _ ?_
    first | clear hK1 K1 | skip
    refine awp_reg zs [12] fun K hK => ?_  -- region 9
    try simp only [go_sem, List.map_cons, List.map_nil, ↓reduceIte, Nat.reduceEqDiff, Nat.reduceLT, Nat.reduceSub, Nat.reduceAdd, Nat.reduceMul, implies_true, true_and, and_true, cond_true, cond_false]
    iterate 14 (first | (refine And.intro ?_ ?_; · first | omega | assumption | (simp; done) | (intros; simp_all; done) | decide) | skip)
    refine callK_use Try.func18 rfl rfl rfl ((c_ref3_SameAll (readE s clock t vn a).1 (readE s clock t vn b).1 hr _ _)) ?_
    try simp only [go_sem, List.map_cons, List.map_nil, ↓reduceIte, Nat.reduceEqDiff, Nat.reduceLT, Nat.reduceSub, Nat.reduceAdd, Nat.reduceMul, implies_true, true_and, and_true, cond_true, cond_false]
    iterate 14 (first | (refine And.intro ?_ ?_; · first | omega | assumption | (simp; done) | (intros; simp_all; done) | decide) | skip)
    refine callG_use Try.func18 rfl rfl rfl (fun _ => (c_ref3_SameAll (visE s clock a).1 (visE s clock b).1 hv _ _)) ?_
    try simp only [go_sem, List.map_cons, List.map_nil, ↓reduceIte, Nat.reduceEqDiff, Nat.reduceLT, Nat.reduceSub, Nat.reduceAdd, Nat.reduceMul, implies_true, true_and, and_true, cond_true, cond_false]
    iterate 14 (first | (refine And.intro ?_ ?_; · first | omega | assumption | (simp; done) | (intros; simp_all; done) | decide) | skip)
    refine hK _ _ _ ?_
    clear hK K
    refine awp_ret ?_
    try simp only [go_sem, List.map_cons, List.map_nil, ↓reduceIte, Nat.reduceEqDiff, Nat.reduceLT, Nat.reduceSub, Nat.reduceAdd, Nat.reduceMul, implies_true, true_and, and_true, cond_true, cond_false]
    refine ⟨_, rfl, ?_, Frz.eq ?_ trivial⟩
    · intro k hk; have h0 : k ≠ n := by omega
      simp [Heap.put, h0]
    · unfold agreeB; rw [hb]; rfl

def earlyB (s : List Fml) (clock more : Int) (a b : List Ent) : Bool :=
  bif (bif (bif (bif (bif decide (clock < 0) then true else decide (more < 0)) then true else decide (1099511627776 < clock)) then true else decide (IntKind.i64.wrap (1099511627776 - clock) < more)) then true else !apartE a b) then true else !((visE s clock (a ++ b)).2 == 0)
def backX (v w : List Ent) (e : Ent) : Bool := bif (bif e.kind == 1 then !shownB v e else false) then shownB w e else false
def nbackB (s : List Fml) (clock more : Int) (a b : List Ent) : Bool :=
  bif earlyB s clock more a b then true
  else bif (bif (visE s clock a).2 != 0 then true else (visE s (IntKind.i64.wrap (clock + more)) (a ++ b)).2 != 0) then false
  else !(a.any fun e => backX (visE s clock a).1 (visE s (IntKind.i64.wrap (clock + more)) (a ++ b)).1 e)

set_option maxRecDepth 100000 in
set_option maxHeartbeats 1600000 in
theorem c_law_RetainNothingBack (s : List Fml) (clock more : Int) (a b : List Ent) (ha : a.length ≤ 10000000) (hb9 : b.length ≤ 10000000) (hfa : ∀ e ∈ a, e.fits) (hfb : ∀ e ∈ b, e.fits)
    (hv : (visE s clock a).1.length < 4611686018427387904) (hw : (visE s (IntKind.i64.wrap (clock + more)) (a ++ b)).1.length < 4611686018427387904) (H : Heap) (n : Nat) :
    Ret Try.prog 8 [schAV s, .int .i64 clock, .int .i64 more, entsAV a, entsAV b] H n (.bool (nbackB s clock more a b)) H n := by
  have hab : (a ++ b).length ≤ 100000000 := by simp; omega
  refine Ret.fin ?_
  refine acalls_of_awp Try.func8 rfl Try.ntmps8 (congrArg Array.toList Try.results8) (by simp) ?_
  simp only [go_sem]
  refine awp_reg zs [1, 2, 3, 4, 5] fun K hK => ?_  -- region 0
  try simp only [go_sem, List.map_cons, List.map_nil, ↓reduceIte, Nat.reduceEqDiff, Nat.reduceLT, Nat.reduceSub, Nat.reduceAdd, Nat.reduceMul, implies_true, true_and, and_true, cond_true, cond_false]
  iterate 14 (first | (refine And.intro ?_ ?_; · first | omega | assumption | (simp; done) | (intros; simp_all; done) | decide) | skip)
  refine hK _ _ _ ?_
  clear hK K
  refine awp_reg zs [1, 2, 3, 4, 5, 11] fun K hK => ?_  -- region 1
  try simp only [go_sem, List.map_cons, List.map_nil, ↓reduceIte, Nat.reduceEqDiff, Nat.reduceLT, Nat.reduceSub, Nat.reduceAdd, Nat.reduceMul, implies_true, true_and, and_true, cond_true, cond_false]
  iterate 14 (first | (refine And.intro ?_ ?_; · first | omega | assumption | (simp; done) | (intros; simp_all; done) | decide) | skip)
  refine callK_use Try.func11 rfl rfl rfl ((c_law_started _ _)) ?_
  try simp only [go_sem, List.map_cons, List.map_nil, ↓reduceIte, Nat.reduceEqDiff, Nat.reduceLT, Nat.reduceSub, Nat.reduceAdd, Nat.reduceMul, implies_true, true_and, and_true, cond_true, cond_false]
  iterate 14 (first | (refine And.intro ?_ ?_; · first | omega | assumption | (simp; done) | (intros; simp_all; done) | decide) | skip)
  refine hK _ _ _ ?_
  clear hK K
  refine awp_seq_k fun K1 hK1 => ?_
  refine awp_drw rfl zs [1, 2, 3, 4, 5, 11, 52] [.m, .q, .m, .m, .q, .q, .m, .m, .q, .q, .m, .m, .q, .q, .m, .m, .m, .q, .q, .q, .m, .m, .m, .c, .q, .q, .m, .q, .m, .m, .m, .c, .c, .q, .q] (by kernel_rfl) (fun _ _ _ _ _ h => h) fun K hK => ?_  -- region 2
  try simp only [go_sem, List.map_cons, List.map_nil, ↓reduceIte, Nat.reduceEqDiff, Nat.reduceLT, Nat.reduceSub, Nat.reduceAdd, Nat.reduceMul, implies_true, true_and, and_true, cond_true, cond_false]
  iterate 14 (first | (refine And.intro ?_ ?_; · first | omega | assumption | (simp; done) | (intros; simp_all; done) | decide) | skip)
  refine callQG_use Try.func12 rfl rfl rfl (fun _ n => (c_law_apart a b (by omega) (by omega) _ _)) ?_
  try simp only [go_sem, List.map_cons, List.map_nil, ↓reduceIte, Nat.reduceEqDiff, Nat.reduceLT, Nat.reduceSub, Nat.reduceAdd, Nat.reduceMul, implies_true, true_and, and_true, cond_true, cond_false]
  iterate 14 (first | (refine And.intro ?_ ?_; · first | omega | assumption | (simp; done) | (intros; simp_all; done) | decide) | skip)
  refine callQG_use Try.func14 rfl rfl rfl (fun _ n => (c_law_join a b (by omega) (by omega) hfa hfb _ _)) ?_
  try simp only [go_sem, List.map_cons, List.map_nil, ↓reduceIte, Nat.reduceEqDiff, Nat.reduceLT, Nat.reduceSub, Nat.reduceAdd, Nat.reduceMul, implies_true, true_and, and_true, cond_true, cond_false]
  iterate 14 (first | (refine And.intro ?_ ?_; · first | omega | assumption | (simp; done) | (intros; simp_all; done) | decide) | skip)
  refine callQG_use Try.func13 rfl rfl rfl (fun _ n => (c_law_sound s clock (a ++ b) hab _ _)) ?_
  try simp only [go_sem, List.map_cons, List.map_nil, ↓reduceIte, Nat.reduceEqDiff, Nat.reduceLT, Nat.reduceSub, Nat.reduceAdd, Nat.reduceMul, implies_true, true_and, and_true, cond_true, cond_false]
  iterate 14 (first | (refine And.intro ?_ ?_; · first | omega | assumption | (simp; done) | (intros; simp_all; done) | decide) | skip)
  refine hK _ _ _ ?_
  clear hK K
  refine awp_cond (b := _) (by simp only [go_sem, List.map_cons, List.map_nil, ↓reduceIte, Nat.reduceEqDiff, Nat.reduceLT, Nat.reduceSub, Nat.reduceAdd, Nat.reduceMul, implies_true, true_and, and_true, cond_true, cond_false]; rfl) (fun hb => ?_) (fun hb => ?_)  -- t52
  · skip
    have he : earlyB s clock more a b = true := hb
    have hq : nbackB s clock more a b = true := by unfold nbackB; rw [he, cond_true]
    refine awp_reg zs [10] fun K hK => ?_  -- region 3
    try simp only [go_sem, List.map_cons, List.map_nil, ↓reduceIte, Nat.reduceEqDiff, Nat.reduceLT, Nat.reduceSub, Nat.reduceAdd, Nat.reduceMul, implies_true, true_and, and_true, cond_true, cond_false]
    iterate 14 (first | (refine And.intro ?_ ?_; · first | omega | assumption | (simp; done) | (intros; simp_all; done) | decide) | skip)
    refine hK _ _ _ ?_
    clear hK K
    refine awp_ret ?_
    try simp only [go_sem, List.map_cons, List.map_nil, ↓reduceIte, Nat.reduceEqDiff, Nat.reduceLT, Nat.reduceSub, Nat.reduceAdd, Nat.reduceMul, implies_true, true_and, and_true, cond_true, cond_false]
    refine ⟨_, rfl, ?_, Frz.eq ?_ trivial⟩
    · intro k hk; have h0 : k ≠ n := by omega
      simp [Heap.put, h0]
    · first | (rw [hq]; done) | (rw [hq, ← hd, hx]; rfl) | (rw [hq, ← hd, hge]; simp)
  · skip
    have he : earlyB s clock more a b = false := hb
    refine awp_skip ?_
    try simp only [go_sem, List.map_cons, List.map_nil, ↓reduceIte, Nat.reduceEqDiff, Nat.reduceLT, Nat.reduceSub, Nat.reduceAdd, Nat.reduceMul, implies_true, true_and, and_true, cond_true, cond_false]
    refine hK1 _ _ _ ?_
    first | clear hK1 K1 | skip
    refine awp_reg zs [1, 2, 3, 4, 5, 12, 13] fun K hK => ?_  -- region 4
    try simp only [go_sem, List.map_cons, List.map_nil, ↓reduceIte, Nat.reduceEqDiff, Nat.reduceLT, Nat.reduceSub, Nat.reduceAdd, Nat.reduceMul, implies_true, true_and, and_true, cond_true, cond_false]
    iterate 14 (first | (refine And.intro ?_ ?_; · first | omega | assumption | (simp; done) | (intros; simp_all; done) | decide) | skip)
    refine callK_use Try.func19 rfl rfl rfl ((c_retain_Vis s clock a (by omega) _ _)) ?_
    try simp only [go_sem, List.map_cons, List.map_nil, ↓reduceIte, Nat.reduceEqDiff, Nat.reduceLT, Nat.reduceSub, Nat.reduceAdd, Nat.reduceMul, implies_true, true_and, and_true, cond_true, cond_false]
    iterate 14 (first | (refine And.intro ?_ ?_; · first | omega | assumption | (simp; done) | (intros; simp_all; done) | decide) | skip)
    refine hK _ _ _ ?_
    clear hK K
    refine awp_drw rfl zs [3, 12, 13, 14, 15] [.q, .m, .m, .q, .m, .m, .c, .c, .m, .q, .q, .q, .q] (by kernel_rfl) (fun _ _ _ _ _ h => h) fun K hK => ?_  -- region 5
    try simp only [go_sem, List.map_cons, List.map_nil, ↓reduceIte, Nat.reduceEqDiff, Nat.reduceLT, Nat.reduceSub, Nat.reduceAdd, Nat.reduceMul, implies_true, true_and, and_true, cond_true, cond_false]
    iterate 14 (first | (refine And.intro ?_ ?_; · first | omega | assumption | (simp; done) | (intros; simp_all; done) | decide) | skip)
    refine callQG_use Try.func14 rfl rfl rfl (fun _ n => (c_law_join a b (by omega) (by omega) hfa hfb _ _)) ?_
    try simp only [go_sem, List.map_cons, List.map_nil, ↓reduceIte, Nat.reduceEqDiff, Nat.reduceLT, Nat.reduceSub, Nat.reduceAdd, Nat.reduceMul, implies_true, true_and, and_true, cond_true, cond_false]
    iterate 14 (first | (refine And.intro ?_ ?_; · first | omega | assumption | (simp; done) | (intros; simp_all; done) | decide) | skip)
    refine callQG_use Try.func19 rfl rfl rfl (fun _ n => (c_retain_Vis s (IntKind.i64.wrap (clock + more)) (a ++ b) hab _ _)) ?_
    try simp only [go_sem, List.map_cons, List.map_nil, ↓reduceIte, Nat.reduceEqDiff, Nat.reduceLT, Nat.reduceSub, Nat.reduceAdd, Nat.reduceMul, implies_true, true_and, and_true, cond_true, cond_false]
    iterate 14 (first | (refine And.intro ?_ ?_; · first | omega | assumption | (simp; done) | (intros; simp_all; done) | decide) | skip)
    refine hK _ _ _ ?_
    clear hK K
    refine awp_seq_k fun K2 hK2 => ?_
    refine awp_reg zs [3, 12, 14, 79] fun K hK => ?_  -- region 6
    try simp only [go_sem, List.map_cons, List.map_nil, ↓reduceIte, Nat.reduceEqDiff, Nat.reduceLT, Nat.reduceSub, Nat.reduceAdd, Nat.reduceMul, implies_true, true_and, and_true, cond_true, cond_false]
    iterate 14 (first | (refine And.intro ?_ ?_; · first | omega | assumption | (simp; done) | (intros; simp_all; done) | decide) | skip)
    refine callK_use Try.func16 rfl rfl rfl ((by apply c_law_num <;> first | assumption | omega)) ?_
    try simp only [go_sem, List.map_cons, List.map_nil, ↓reduceIte, Nat.reduceEqDiff, Nat.reduceLT, Nat.reduceSub, Nat.reduceAdd, Nat.reduceMul, implies_true, true_and, and_true, cond_true, cond_false]
    iterate 14 (first | (refine And.intro ?_ ?_; · first | omega | assumption | (simp; done) | (intros; simp_all; done) | decide) | skip)
    refine callG_use Try.func16 rfl rfl rfl (fun _ => (by apply c_law_num <;> first | assumption | omega)) ?_
    try simp only [go_sem, List.map_cons, List.map_nil, ↓reduceIte, Nat.reduceEqDiff, Nat.reduceLT, Nat.reduceSub, Nat.reduceAdd, Nat.reduceMul, implies_true, true_and, and_true, cond_true, cond_false]
    iterate 14 (first | (refine And.intro ?_ ?_; · first | omega | assumption | (simp; done) | (intros; simp_all; done) | decide) | skip)
    refine hK _ _ _ ?_
    clear hK K
    refine awp_cond (b := _) (by simp only [go_sem, List.map_cons, List.map_nil, ↓reduceIte, Nat.reduceEqDiff, Nat.reduceLT, Nat.reduceSub, Nat.reduceAdd, Nat.reduceMul, implies_true, true_and, and_true, cond_true, cond_false]; rfl) (fun hb => ?_) (fun hb => ?_)  -- t79
    · skip
      have h2 : (bif (visE s clock a).2 != 0 then true else (visE s (IntKind.i64.wrap (clock + more)) (a ++ b)).2 != 0) = true := hb
      have hq : nbackB s clock more a b = false := by unfold nbackB; rw [he, h2, cond_false, cond_true]
      refine awp_reg zs [10] fun K hK => ?_  -- region 7
      try simp only [go_sem, List.map_cons, List.map_nil, ↓reduceIte, Nat.reduceEqDiff, Nat.reduceLT, Nat.reduceSub, Nat.reduceAdd, Nat.reduceMul, implies_true, true_and, and_true, cond_true, cond_false]
      iterate 14 (first | (refine And.intro ?_ ?_; · first | omega | assumption | (simp; done) | (intros; simp_all; done) | decide) | skip)
      refine hK _ _ _ ?_
      clear hK K
      refine awp_ret ?_
      try simp only [go_sem, List.map_cons, List.map_nil, ↓reduceIte, Nat.reduceEqDiff, Nat.reduceLT, Nat.reduceSub, Nat.reduceAdd, Nat.reduceMul, implies_true, true_and, and_true, cond_true, cond_false]
      refine ⟨_, rfl, ?_, Frz.eq ?_ trivial⟩
      · intro k hk; have h0 : k ≠ n := by omega
        simp [Heap.put, h0]
      · first | (rw [hq]; done) | (rw [hq, ← hd, hx]; rfl) | (rw [hq, ← hd, hge]; simp)
    · skip
      have h2 : (bif (visE s clock a).2 != 0 then true else (visE s (IntKind.i64.wrap (clock + more)) (a ++ b)).2 != 0) = false := hb
      have hq : nbackB s clock more a b = !(a.any fun e => backX (visE s clock a).1 (visE s (IntKind.i64.wrap (clock + more)) (a ++ b)).1 e) := by unfold nbackB; rw [he, h2]; rfl
      generalize (visE s clock a).1 = v at *
      generalize (visE s (IntKind.i64.wrap (clock + more)) (a ++ b)).1 = w at *
      refine awp_skip ?_
      try simp only [go_sem, List.map_cons, List.map_nil, ↓reduceIte, Nat.reduceEqDiff, Nat.reduceLT, Nat.reduceSub, Nat.reduceAdd, Nat.reduceMul, implies_true, true_and, and_true, cond_true, cond_false]
      refine hK2 _ _ _ ?_
      first | clear hK2 K2 | skip
      refine awp_seq_k fun K3 hK3 => ?_
      refine awp_reg zs [3, 12, 14, 16] fun K hK => ?_  -- region 8
      try simp only [go_sem, List.map_cons, List.map_nil, ↓reduceIte, Nat.reduceEqDiff, Nat.reduceLT, Nat.reduceSub, Nat.reduceAdd, Nat.reduceMul, implies_true, true_and, and_true, cond_true, cond_false]
      iterate 14 (first | (refine And.intro ?_ ?_; · first | omega | assumption | (simp; done) | (intros; simp_all; done) | decide) | skip)
      refine hK _ _ _ ?_
      clear hK K
      refine awp_block ?_
      -- loop 0: head [3, 12, 14, 16]
      refine awp_loop (fun T' H' n' => ∃ i : Nat, i ≤ a.length ∧ T' = tl [(3, .sl 7 (a.map entAV)), (12, .sl 7 (v.map entAV)), (14, .sl 7 (w.map entAV)), (16, .int .i64 i)] ∧ H' = H.put n (some (.arr 0 1 [schAV s])) ∧ n' = n + 1 ∧ (a.drop i).any (backX v w) = a.any (backX v w)) (fun T' _ _ => a.length - iv (T' 16)) ?_ ?_
      · skip
        exact ⟨0, Nat.zero_le _, rfl, rfl, rfl, rfl⟩
      intro T1 H1 n1
      rintro ⟨i, hi, rfl, rfl, rfl, hd⟩
      refine awp_seq_k fun K4 hK4 => ?_
      refine awp_reg zs [3, 12, 14, 16, 83] fun K hK => ?_  -- region 9
      try simp only [go_sem, List.map_cons, List.map_nil, ↓reduceIte, Nat.reduceEqDiff, Nat.reduceLT, Nat.reduceSub, Nat.reduceAdd, Nat.reduceMul, implies_true, true_and, and_true, cond_true, cond_false]
      iterate 14 (first | (refine And.intro ?_ ?_; · first | omega | assumption | (simp; done) | (intros; simp_all; done) | decide) | skip)
      refine hK _ _ _ ?_
      clear hK K
      refine awp_cond (b := _) (by simp only [go_sem, List.map_cons, List.map_nil, ↓reduceIte, Nat.reduceEqDiff, Nat.reduceLT, Nat.reduceSub, Nat.reduceAdd, Nat.reduceMul, implies_true, true_and, and_true, cond_true, cond_false]; rfl) (fun hb => ?_) (fun hb => ?_)  -- t83
      · skip
        have hlt : i < a.length := by simpa using hb
        have hn1 : nth (a.map entAV) i = entAV (a.getD i default) := nth_map entAV a i hlt
        rw [drop_cons a i hlt, List.any_cons] at hd
        generalize a.getD i default = x at *
        refine awp_skip ?_
        try simp only [go_sem, List.map_cons, List.map_nil, ↓reduceIte, Nat.reduceEqDiff, Nat.reduceLT, Nat.reduceSub, Nat.reduceAdd, Nat.reduceMul, implies_true, true_and, and_true, cond_true, cond_false]
        refine hK4 _ _ _ ?_
        first | clear hK4 K4 | skip
        refine awp_seq_k fun K5 hK5 => ?_
        refine awp_block ?_
        refine awp_reg zs [3, 12, 14, 16, 108] fun K hK => ?_  -- region 11
        try simp only [go_sem, List.map_cons, List.map_nil, ↓reduceIte, Nat.reduceEqDiff, Nat.reduceLT, Nat.reduceSub, Nat.reduceAdd, Nat.reduceMul, implies_true, true_and, and_true, cond_true, cond_false, Int.toNat_natCast, hn1]
        iterate 14 (first | (refine And.intro ?_ ?_; · first | (intro h9; omega) | omega | assumption | (simp; done) | (intros; simp_all; done) | decide) | skip)
        refine callG_use Try.func21 rfl rfl rfl (fun _ => (c_law_shown v x hv _ _)) ?_
        try simp only [go_sem, List.map_cons, List.map_nil, ↓reduceIte, Nat.reduceEqDiff, Nat.reduceLT, Nat.reduceSub, Nat.reduceAdd, Nat.reduceMul, implies_true, true_and, and_true, cond_true, cond_false, Int.toNat_natCast, hn1]
        iterate 14 (first | (refine And.intro ?_ ?_; · first | (intro h9; omega) | omega | assumption | (simp; done) | (intros; simp_all; done) | decide) | skip)
        refine callG_use Try.func21 rfl rfl rfl (fun _ => (c_law_shown w x hw _ _)) ?_
        try simp only [go_sem, List.map_cons, List.map_nil, ↓reduceIte, Nat.reduceEqDiff, Nat.reduceLT, Nat.reduceSub, Nat.reduceAdd, Nat.reduceMul, implies_true, true_and, and_true, cond_true, cond_false, Int.toNat_natCast, hn1]
        iterate 14 (first | (refine And.intro ?_ ?_; · first | (intro h9; omega) | omega | assumption | (simp; done) | (intros; simp_all; done) | decide) | skip)
        refine hK _ _ _ ?_
        clear hK K
        refine awp_cond (b := _) (by simp only [go_sem, List.map_cons, List.map_nil, ↓reduceIte, Nat.reduceEqDiff, Nat.reduceLT, Nat.reduceSub, Nat.reduceAdd, Nat.reduceMul, implies_true, true_and, and_true, cond_true, cond_false]; rfl) (fun hb => ?_) (fun hb => ?_)  -- t108
        · skip
          have hx : backX v w x = true := hb
          refine awp_reg zs [10] fun K hK => ?_  -- region 12
          try simp only [go_sem, List.map_cons, List.map_nil, ↓reduceIte, Nat.reduceEqDiff, Nat.reduceLT, Nat.reduceSub, Nat.reduceAdd, Nat.reduceMul, implies_true, true_and, and_true, cond_true, cond_false]
          iterate 14 (first | (refine And.intro ?_ ?_; · first | omega | assumption | (simp; done) | (intros; simp_all; done) | decide) | skip)
          refine hK _ _ _ ?_
          clear hK K
          refine awp_ret ?_
          try simp only [go_sem, List.map_cons, List.map_nil, ↓reduceIte, Nat.reduceEqDiff, Nat.reduceLT, Nat.reduceSub, Nat.reduceAdd, Nat.reduceMul, implies_true, true_and, and_true, cond_true, cond_false]
          refine ⟨_, rfl, ?_, Frz.eq ?_ trivial⟩
          · intro k hk; have h0 : k ≠ n := by omega
            simp [Heap.put, h0]
          · first | (rw [hq]; done) | (rw [hq, ← hd, hx]; rfl) | (rw [hq, ← hd, hge]; simp)
        · skip
          have hx : backX v w x = false := hb
          refine awp_skip ?_
          try simp only [go_sem, List.map_cons, List.map_nil, ↓reduceIte, Nat.reduceEqDiff, Nat.reduceLT, Nat.reduceSub, Nat.reduceAdd, Nat.reduceMul, implies_true, true_and, and_true, cond_true, cond_false]
          refine hK5 _ _ _ ?_
          first | clear hK5 K5 | skip
          refine awp_reg1 zs [3, 12, 14, 16] fun K hK => ?_  -- region 10
          try simp only [go_sem, List.map_cons, List.map_nil, ↓reduceIte, Nat.reduceEqDiff, Nat.reduceLT, Nat.reduceSub, Nat.reduceAdd, Nat.reduceMul, implies_true, true_and, and_true, cond_true, cond_false]
          iterate 14 (first | (refine And.intro ?_ ?_; · first | omega | assumption | (simp; done) | (intros; simp_all; done) | decide) | skip)
          refine hK _ _ _ ?_
          clear hK K
          try simp only [go_sem, List.map_cons, List.map_nil, ↓reduceIte, Nat.reduceEqDiff, Nat.reduceLT, Nat.reduceSub, Nat.reduceAdd, Nat.reduceMul, implies_true, true_and, and_true, cond_true, cond_false]
          refine ⟨⟨i + 1, by omega, by rw [w1 (by omega)], by rw [← hd, hx]; rfl⟩, by rw [w1 (by omega)]; simp; omega⟩
      · skip
        have hge : i = a.length := by simp at hb; omega
        refine awp_exit ?_
        try simp only [go_sem, List.map_cons, List.map_nil, ↓reduceIte, Nat.reduceEqDiff, Nat.reduceLT, Nat.reduceSub, Nat.reduceAdd, Nat.reduceMul, implies_true, true_and, and_true, cond_true, cond_false]
        refine hK3 _ _ _ ?_
        first | clear hK3 K3 | skip
        refine awp_reg zs [10] fun K hK => ?_  -- region 13
        try simp only [go_sem, List.map_cons, List.map_nil, ↓reduceIte, Nat.reduceEqDiff, Nat.reduceLT, Nat.reduceSub, Nat.reduceAdd, Nat.reduceMul, implies_true, true_and, and_true, cond_true, cond_false]
        iterate 14 (first | (refine And.intro ?_ ?_; · first | omega | assumption | (simp; done) | (intros; simp_all; done) | decide) | skip)
        refine hK _ _ _ ?_
        clear hK K
        refine awp_ret ?_
        try simp only [go_sem, List.map_cons, List.map_nil, ↓reduceIte, Nat.reduceEqDiff, Nat.reduceLT, Nat.reduceSub, Nat.reduceAdd, Nat.reduceMul, implies_true, true_and, and_true, cond_true, cond_false]
        refine ⟨_, rfl, ?_, Frz.eq ?_ trivial⟩
        · intro k hk; have h0 : k ≠ n := by omega
          simp [Heap.put, h0]
        · first | (rw [hq]; done) | (rw [hq, ← hd, hx]; rfl) | (rw [hq, ← hd, hge]; simp)

def unseenB (s : List Fml) (clock more t n : Int) (a b : List Ent) : Bool :=
  bif earlyB s clock more a b then true
  else bif (squashE s clock false 0 a).2 == 0 then agreeB s (IntKind.i64.wrap (clock + more)) t n (a ++ b) ((squashE s clock false 0 a).1 ++ b) else false

set_option maxRecDepth 100000 in
set_option maxHeartbeats 1600000 in
theorem c_law_RetainNeverSeen (s : List Fml) (clock more t vn : Int) (a b : List Ent) (ha : a.length ≤ 10000000) (hb9 : b.length ≤ 10000000) (hfa : ∀ e ∈ a, e.fits) (hfb : ∀ e ∈ b, e.fits)
    (hr : (readE s (IntKind.i64.wrap (clock + more)) t vn (a ++ b)).1.length < 4611686018427387904) (hv : (visE s (IntKind.i64.wrap (clock + more)) (a ++ b)).1.length < 4611686018427387904) (H : Heap) (n : Nat) :
    Ret Try.prog 3 [schAV s, .int .i64 clock, .int .i64 more, .int .i64 t, .int .i64 vn, entsAV a, entsAV b] H n (.bool (unseenB s clock more t vn a b)) H n := by
  have hab : (a ++ b).length ≤ 100000000 := by simp; omega
  have hsl := squashE_length s clock false 0 a
  have hlb : ((squashE s clock false 0 a).1 ++ b).length ≤ 100000000 := by simp; omega
  refine Ret.fin ?_
  refine acalls_of_awp Try.func3 rfl Try.ntmps3 (congrArg Array.toList Try.results3) (by simp) ?_
  simp only [go_sem]
  refine awp_reg zs [1, 2, 3, 4, 5, 6, 7] fun K hK => ?_  -- region 0
  try simp only [go_sem, List.map_cons, List.map_nil, ↓reduceIte, Nat.reduceEqDiff, Nat.reduceLT, Nat.reduceSub, Nat.reduceAdd, Nat.reduceMul, implies_true, true_and, and_true, cond_true, cond_false]
  iterate 14 (first | (refine And.intro ?_ ?_; · first | omega | assumption | (simp; done) | (intros; simp_all; done) | decide) | skip)
  refine hK _ _ _ ?_
  clear hK K
  refine awp_reg zs [1, 2, 3, 4, 5, 6, 7, 15] fun K hK => ?_  -- region 1
  try simp only [go_sem, List.map_cons, List.map_nil, ↓reduceIte, Nat.reduceEqDiff, Nat.reduceLT, Nat.reduceSub, Nat.reduceAdd, Nat.reduceMul, implies_true, true_and, and_true, cond_true, cond_false]
  iterate 14 (first | (refine And.intro ?_ ?_; · first | omega | assumption | (simp; done) | (intros; simp_all; done) | decide) | skip)
  refine callK_use Try.func11 rfl rfl rfl ((c_law_started _ _)) ?_
  try simp only [go_sem, List.map_cons, List.map_nil, ↓reduceIte, Nat.reduceEqDiff, Nat.reduceLT, Nat.reduceSub, Nat.reduceAdd, Nat.reduceMul, implies_true, true_and, and_true, cond_true, cond_false]
  iterate 14 (first | (refine And.intro ?_ ?_; · first | omega | assumption | (simp; done) | (intros; simp_all; done) | decide) | skip)
  refine hK _ _ _ ?_
  clear hK K
  refine awp_seq_k fun K1 hK1 => ?_
  refine awp_drw rfl zs [1, 2, 3, 4, 5, 6, 7, 15, 53] [.m, .q, .m, .m, .q, .q, .m, .m, .q, .q, .m, .m, .q, .q, .m, .m, .m, .q, .q, .q, .m, .m, .m, .c, .q, .q, .m, .q, .m, .m, .m, .c, .c, .q, .q] (by kernel_rfl) (fun _ _ _ _ _ h => h) fun K hK => ?_  -- region 2
  try simp only [go_sem, List.map_cons, List.map_nil, ↓reduceIte, Nat.reduceEqDiff, Nat.reduceLT, Nat.reduceSub, Nat.reduceAdd, Nat.reduceMul, implies_true, true_and, and_true, cond_true, cond_false]
  iterate 14 (first | (refine And.intro ?_ ?_; · first | omega | assumption | (simp; done) | (intros; simp_all; done) | decide) | skip)
  refine callQG_use Try.func12 rfl rfl rfl (fun _ n => (c_law_apart a b (by omega) (by omega) _ _)) ?_
  try simp only [go_sem, List.map_cons, List.map_nil, ↓reduceIte, Nat.reduceEqDiff, Nat.reduceLT, Nat.reduceSub, Nat.reduceAdd, Nat.reduceMul, implies_true, true_and, and_true, cond_true, cond_false]
  iterate 14 (first | (refine And.intro ?_ ?_; · first | omega | assumption | (simp; done) | (intros; simp_all; done) | decide) | skip)
  refine callQG_use Try.func14 rfl rfl rfl (fun _ n => (c_law_join a b (by omega) (by omega) hfa hfb _ _)) ?_
  try simp only [go_sem, List.map_cons, List.map_nil, ↓reduceIte, Nat.reduceEqDiff, Nat.reduceLT, Nat.reduceSub, Nat.reduceAdd, Nat.reduceMul, implies_true, true_and, and_true, cond_true, cond_false]
  iterate 14 (first | (refine And.intro ?_ ?_; · first | omega | assumption | (simp; done) | (intros; simp_all; done) | decide) | skip)
  refine callQG_use Try.func13 rfl rfl rfl (fun _ n => (c_law_sound s clock (a ++ b) hab _ _)) ?_
  try simp only [go_sem, List.map_cons, List.map_nil, ↓reduceIte, Nat.reduceEqDiff, Nat.reduceLT, Nat.reduceSub, Nat.reduceAdd, Nat.reduceMul, implies_true, true_and, and_true, cond_true, cond_false]
  iterate 14 (first | (refine And.intro ?_ ?_; · first | omega | assumption | (simp; done) | (intros; simp_all; done) | decide) | skip)
  refine hK _ _ _ ?_
  clear hK K
  refine awp_cond (b := _) (by simp only [go_sem, List.map_cons, List.map_nil, ↓reduceIte, Nat.reduceEqDiff, Nat.reduceLT, Nat.reduceSub, Nat.reduceAdd, Nat.reduceMul, implies_true, true_and, and_true, cond_true, cond_false]; rfl) (fun hb => ?_) (fun hb => ?_)  -- t53
  · skip
    have he : earlyB s clock more a b = true := hb
    have hq : unseenB s clock more t vn a b = true := by unfold unseenB; rw [he, cond_true]
    refine awp_reg zs [14] fun K hK => ?_  -- region 3
    try simp only [go_sem, List.map_cons, List.map_nil, ↓reduceIte, Nat.reduceEqDiff, Nat.reduceLT, Nat.reduceSub, Nat.reduceAdd, Nat.reduceMul, implies_true, true_and, and_true, cond_true, cond_false]
    iterate 14 (first | (refine And.intro ?_ ?_; · first | omega | assumption | (simp; done) | (intros; simp_all; done) | decide) | skip)
    refine hK _ _ _ ?_
    clear hK K
    refine awp_ret ?_
    try simp only [go_sem, List.map_cons, List.map_nil, ↓reduceIte, Nat.reduceEqDiff, Nat.reduceLT, Nat.reduceSub, Nat.reduceAdd, Nat.reduceMul, implies_true, true_and, and_true, cond_true, cond_false]
    refine ⟨_, rfl, ?_, Frz.eq ?_ trivial⟩
    · intro k hk; have h0 : k ≠ n := by omega
      simp [Heap.put, h0]
    · rw [hq]
  · skip
    have he : earlyB s clock more a b = false := hb
    have hq : unseenB s clock more t vn a b = bif (squashE s clock false 0 a).2 == 0 then agreeB s (IntKind.i64.wrap (clock + more)) t vn (a ++ b) ((squashE s clock false 0 a).1 ++ b) else false := by unfold unseenB; rw [he, cond_false]
    refine awp_skip ?_
    try simp only [go_sem, List.map_cons, List.map_nil, ↓reduceIte, Nat.reduceEqDiff, Nat.reduceLT, Nat.reduceSub, Nat.reduceAdd, Nat.reduceMul, implies_true, true_and, and_true, cond_true, cond_false]
    refine hK1 _ _ _ ?_
    first | clear hK1 K1 | skip
    refine awp_reg zs [1, 2, 3, 4, 5, 6, 7, 16, 17] fun K hK => ?_  -- region 4
    try simp only [go_sem, List.map_cons, List.map_nil, ↓reduceIte, Nat.reduceEqDiff, Nat.reduceLT, Nat.reduceSub, Nat.reduceAdd, Nat.reduceMul, implies_true, true_and, and_true, cond_true, cond_false]
    iterate 14 (first | (refine And.intro ?_ ?_; · first | omega | assumption | (simp; done) | (intros; simp_all; done) | decide) | skip)
    refine callK_use Try.func15 rfl rfl rfl ((c_retain_Squash s clock 0 false a (by omega) _ _)) ?_
    try simp only [go_sem, List.map_cons, List.map_nil, ↓reduceIte, Nat.reduceEqDiff, Nat.reduceLT, Nat.reduceSub, Nat.reduceAdd, Nat.reduceMul, implies_true, true_and, and_true, cond_true, cond_false]
    iterate 14 (first | (refine And.intro ?_ ?_; · first | omega | assumption | (simp; done) | (intros; simp_all; done) | decide) | skip)
    refine hK _ _ _ ?_
    clear hK K
    refine awp_drw rfl zs [14] [.m, .c, .q, .m, .q, .m, .m, .q, .m, .m, .m, .m, .c, .m, .m, .c, .c, .q, .q] (by kernel_rfl) (fun _ _ _ _ _ h => h) fun K hK => ?_  -- region 5
    try simp only [go_sem, List.map_cons, List.map_nil, ↓reduceIte, Nat.reduceEqDiff, Nat.reduceLT, Nat.reduceSub, Nat.reduceAdd, Nat.reduceMul, implies_true, true_and, and_true, cond_true, cond_false]
    iterate 14 (first | (refine And.intro ?_ ?_; · first | omega | assumption | (simp; done) | (intros; simp_all; done) | decide) | skip)
    refine callQG_use Try.func16 rfl rfl rfl (fun _ n => (by apply c_law_num <;> first | assumption | omega)) ?_
    try simp only [go_sem, List.map_cons, List.map_nil, ↓reduceIte, Nat.reduceEqDiff, Nat.reduceLT, Nat.reduceSub, Nat.reduceAdd, Nat.reduceMul, implies_true, true_and, and_true, cond_true, cond_false]
    iterate 14 (first | (refine And.intro ?_ ?_; · first | omega | assumption | (simp; done) | (intros; simp_all; done) | decide) | skip)
    refine callQG_use Try.func14 rfl rfl rfl (fun _ n => (c_law_join a b (by omega) (by omega) hfa hfb _ _)) ?_
    try simp only [go_sem, List.map_cons, List.map_nil, ↓reduceIte, Nat.reduceEqDiff, Nat.reduceLT, Nat.reduceSub, Nat.reduceAdd, Nat.reduceMul, implies_true, true_and, and_true, cond_true, cond_false]
    iterate 14 (first | (refine And.intro ?_ ?_; · first | omega | assumption | (simp; done) | (intros; simp_all; done) | decide) | skip)
    refine callQG_use Try.func14 rfl rfl rfl (fun _ n => (c_law_join (squashE s clock false 0 a).1 b (by omega) (by omega) (squashE_fits s clock 0 false a) hfb _ _)) ?_
    try simp only [go_sem, List.map_cons, List.map_nil, ↓reduceIte, Nat.reduceEqDiff, Nat.reduceLT, Nat.reduceSub, Nat.reduceAdd, Nat.reduceMul, implies_true, true_and, and_true, cond_true, cond_false]
    iterate 14 (first | (refine And.intro ?_ ?_; · first | omega | assumption | (simp; done) | (intros; simp_all; done) | decide) | skip)
    refine callQG_use Try.func17 rfl rfl rfl (fun _ n => (c_law_agree s (IntKind.i64.wrap (clock + more)) t vn (a ++ b) ((squashE s clock false 0 a).1 ++ b) hab hlb hr hv _ _)) ?_
    try simp only [go_sem, List.map_cons, List.map_nil, ↓reduceIte, Nat.reduceEqDiff, Nat.reduceLT, Nat.reduceSub, Nat.reduceAdd, Nat.reduceMul, implies_true, true_and, and_true, cond_true, cond_false]
    iterate 14 (first | (refine And.intro ?_ ?_; · first | omega | assumption | (simp; done) | (intros; simp_all; done) | decide) | skip)
    refine hK _ _ _ ?_
    clear hK K
    refine awp_ret ?_
    try simp only [go_sem, List.map_cons, List.map_nil, ↓reduceIte, Nat.reduceEqDiff, Nat.reduceLT, Nat.reduceSub, Nat.reduceAdd, Nat.reduceMul, implies_true, true_and, and_true, cond_true, cond_false]
    refine ⟨_, rfl, ?_, Frz.eq ?_ trivial⟩
    · intro k hk; have h0 : k ≠ n := by omega
      simp [Heap.put, h0]
    · rw [hq]

def earlyM (s : List Fml) (clock more low : Int) (a b : List Ent) : Bool :=
  bif (bif (bif (bif (bif (bif decide (clock < 0) then true else decide (more < 0)) then true else decide (1099511627776 < clock)) then true else decide (IntKind.i64.wrap (1099511627776 - clock) < more)) then true else decide (low < 0)) then true else decide (1099511627776 < low)) then true else !((visE s clock (a ++ b)).2 == 0)
/-- is some entry behind not newer, or not above low? -/
def olderX (low : Int) (a : List Ent) (e : Ent) : Bool := decide (e.ts ≤ low) || a.any fun x => decide (e.seq ≤ x.seq)
def munseenB (s : List Fml) (clock more t n low : Int) (a b : List Ent) : Bool :=
  bif earlyM s clock more low a b then true
  else bif b.any (olderX low a) then true
  else bif (squashE s clock true low a).2 == 0 then agreeB s (IntKind.i64.wrap (clock + more)) t n (a ++ b) ((squashE s clock true low a).1 ++ b) else false

set_option maxRecDepth 100000 in
set_option maxHeartbeats 3200000 in
theorem c_law_RetainMajorUnseen (s : List Fml) (clock more t vn low : Int) (a b : List Ent) (ha : a.length ≤ 10000000) (hb9 : b.length ≤ 10000000) (hfa : ∀ e ∈ a, e.fits) (hfb : ∀ e ∈ b, e.fits)
    (hr : (readE s (IntKind.i64.wrap (clock + more)) t vn (a ++ b)).1.length < 4611686018427387904) (hv : (visE s (IntKind.i64.wrap (clock + more)) (a ++ b)).1.length < 4611686018427387904) (H : Heap) (n : Nat) :
    Ret Try.prog 4 [schAV s, .int .i64 clock, .int .i64 more, .int .i64 t, .int .i64 vn, .int .i64 low, entsAV a, entsAV b] H n (.bool (munseenB s clock more t vn low a b)) H n := by
  have hab : (a ++ b).length ≤ 100000000 := by simp; omega
  have hsl := squashE_length s clock true low a
  have hlb : ((squashE s clock true low a).1 ++ b).length ≤ 100000000 := by simp; omega
  refine Ret.fin ?_
  refine acalls_of_awp Try.func4 rfl Try.ntmps4 (congrArg Array.toList Try.results4) (by simp) ?_
  simp only [go_sem]
  refine awp_reg zs [1, 2, 3, 4, 5, 6, 7, 8] fun K hK => ?_  -- region 0
  try simp only [go_sem, List.map_cons, List.map_nil, ↓reduceIte, Nat.reduceEqDiff, Nat.reduceLT, Nat.reduceSub, Nat.reduceAdd, Nat.reduceMul, implies_true, true_and, and_true, cond_true, cond_false]
  iterate 14 (first | (refine And.intro ?_ ?_; · first | omega | assumption | (simp; done) | (intros; simp_all; done) | decide) | skip)
  refine hK _ _ _ ?_
  clear hK K
  refine awp_reg zs [1, 2, 3, 4, 5, 6, 7, 8, 17] fun K hK => ?_  -- region 1
  try simp only [go_sem, List.map_cons, List.map_nil, ↓reduceIte, Nat.reduceEqDiff, Nat.reduceLT, Nat.reduceSub, Nat.reduceAdd, Nat.reduceMul, implies_true, true_and, and_true, cond_true, cond_false]
  iterate 14 (first | (refine And.intro ?_ ?_; · first | omega | assumption | (simp; done) | (intros; simp_all; done) | decide) | skip)
  refine callK_use Try.func11 rfl rfl rfl ((c_law_started _ _)) ?_
  try simp only [go_sem, List.map_cons, List.map_nil, ↓reduceIte, Nat.reduceEqDiff, Nat.reduceLT, Nat.reduceSub, Nat.reduceAdd, Nat.reduceMul, implies_true, true_and, and_true, cond_true, cond_false]
  iterate 14 (first | (refine And.intro ?_ ?_; · first | omega | assumption | (simp; done) | (intros; simp_all; done) | decide) | skip)
  refine hK _ _ _ ?_
  clear hK K
  refine awp_seq_k fun K1 hK1 => ?_
  refine awp_drw rfl zs [1, 2, 3, 4, 5, 6, 7, 8, 17, 59] [.m, .q, .m, .m, .q, .q, .m, .m, .q, .q, .m, .m, .q, .q, .m, .m, .m, .q, .q, .q, .m, .m, .q, .q, .m, .m, .q, .q, .m, .q, .m, .m, .m, .c, .c, .q, .q] (by kernel_rfl) (fun _ _ _ _ _ h => h) fun K hK => ?_  -- region 2
  try simp only [go_sem, List.map_cons, List.map_nil, ↓reduceIte, Nat.reduceEqDiff, Nat.reduceLT, Nat.reduceSub, Nat.reduceAdd, Nat.reduceMul, implies_true, true_and, and_true, cond_true, cond_false]
  iterate 14 (first | (refine And.intro ?_ ?_; · first | omega | assumption | (simp; done) | (intros; simp_all; done) | decide) | skip)
  refine callQG_use Try.func14 rfl rfl rfl (fun _ n => (c_law_join a b (by omega) (by omega) hfa hfb _ _)) ?_
  try simp only [go_sem, List.map_cons, List.map_nil, ↓reduceIte, Nat.reduceEqDiff, Nat.reduceLT, Nat.reduceSub, Nat.reduceAdd, Nat.reduceMul, implies_true, true_and, and_true, cond_true, cond_false]
  iterate 14 (first | (refine And.intro ?_ ?_; · first | omega | assumption | (simp; done) | (intros; simp_all; done) | decide) | skip)
  refine callQG_use Try.func13 rfl rfl rfl (fun _ n => (c_law_sound s clock (a ++ b) hab _ _)) ?_
  try simp only [go_sem, List.map_cons, List.map_nil, ↓reduceIte, Nat.reduceEqDiff, Nat.reduceLT, Nat.reduceSub, Nat.reduceAdd, Nat.reduceMul, implies_true, true_and, and_true, cond_true, cond_false]
  iterate 14 (first | (refine And.intro ?_ ?_; · first | omega | assumption | (simp; done) | (intros; simp_all; done) | decide) | skip)
  refine hK _ _ _ ?_
  clear hK K
  refine awp_cond (b := _) (by simp only [go_sem, List.map_cons, List.map_nil, ↓reduceIte, Nat.reduceEqDiff, Nat.reduceLT, Nat.reduceSub, Nat.reduceAdd, Nat.reduceMul, implies_true, true_and, and_true, cond_true, cond_false]; rfl) (fun hb => ?_) (fun hb => ?_)  -- t59
  · skip
    have he : earlyM s clock more low a b = true := hb
    have hq : munseenB s clock more t vn low a b = true := by unfold munseenB; rw [he, cond_true]
    refine awp_reg zs [16] fun K hK => ?_  -- region 3
    try simp only [go_sem, List.map_cons, List.map_nil, ↓reduceIte, Nat.reduceEqDiff, Nat.reduceLT, Nat.reduceSub, Nat.reduceAdd, Nat.reduceMul, implies_true, true_and, and_true, cond_true, cond_false]
    iterate 14 (first | (refine And.intro ?_ ?_; · first | omega | assumption | (simp; done) | (intros; simp_all; done) | decide) | skip)
    refine hK _ _ _ ?_
    clear hK K
    refine awp_ret ?_
    try simp only [go_sem, List.map_cons, List.map_nil, ↓reduceIte, Nat.reduceEqDiff, Nat.reduceLT, Nat.reduceSub, Nat.reduceAdd, Nat.reduceMul, implies_true, true_and, and_true, cond_true, cond_false]
    refine ⟨_, rfl, ?_, Frz.eq ?_ trivial⟩
    · intro k hk; have h0 : k ≠ n := by omega
      simp [Heap.put, h0]
    · rw [hq]
  · skip
    have he : earlyM s clock more low a b = false := hb
    refine awp_skip ?_
    try simp only [go_sem, List.map_cons, List.map_nil, ↓reduceIte, Nat.reduceEqDiff, Nat.reduceLT, Nat.reduceSub, Nat.reduceAdd, Nat.reduceMul, implies_true, true_and, and_true, cond_true, cond_false]
    refine hK1 _ _ _ ?_
    first | clear hK1 K1 | skip
    refine awp_seq_k fun K2 hK2 => ?_
    refine awp_reg zs [1, 2, 3, 4, 5, 6, 7, 8, 18] fun K hK => ?_  -- region 4
    try simp only [go_sem, List.map_cons, List.map_nil, ↓reduceIte, Nat.reduceEqDiff, Nat.reduceLT, Nat.reduceSub, Nat.reduceAdd, Nat.reduceMul, implies_true, true_and, and_true, cond_true, cond_false]
    iterate 14 (first | (refine And.intro ?_ ?_; · first | omega | assumption | (simp; done) | (intros; simp_all; done) | decide) | skip)
    refine hK _ _ _ ?_
    clear hK K
    refine awp_block ?_
    -- loop 0: head [1, 2, 3, 4, 5, 6, 7, 8, 18]
    refine awp_loop (fun T' H' n' => ∃ i : Nat, i ≤ b.length ∧ T' = tl [(1, .int .i64 clock), (2, .int .i64 more), (3, .int .i64 t), (4, .int .i64 vn), (5, .int .i64 low), (6, .sl 7 (a.map entAV)), (7, .sl 7 (b.map entAV)), (8, .loc n 0 0 0 []), (18, .int .i64 i)] ∧ H' = H.put n (some (.arr 0 1 [schAV s])) ∧ n' = n + 1 ∧ (b.drop i).any (olderX low a) = b.any (olderX low a)) (fun T' _ _ => b.length - iv (T' 18)) ?_ ?_
    · skip
      exact ⟨0, Nat.zero_le _, rfl, rfl, rfl, rfl⟩
    intro T1 H1 n1
    rintro ⟨i, hi, rfl, rfl, rfl, hd⟩
    refine awp_seq_k fun K3 hK3 => ?_
    refine awp_reg zs [1, 2, 3, 4, 5, 6, 7, 8, 18, 64] fun K hK => ?_  -- region 5
    try simp only [go_sem, List.map_cons, List.map_nil, ↓reduceIte, Nat.reduceEqDiff, Nat.reduceLT, Nat.reduceSub, Nat.reduceAdd, Nat.reduceMul, implies_true, true_and, and_true, cond_true, cond_false]
    iterate 14 (first | (refine And.intro ?_ ?_; · first | omega | assumption | (simp; done) | (intros; simp_all; done) | decide) | skip)
    refine hK _ _ _ ?_
    clear hK K
    refine awp_cond (b := _) (by simp only [go_sem, List.map_cons, List.map_nil, ↓reduceIte, Nat.reduceEqDiff, Nat.reduceLT, Nat.reduceSub, Nat.reduceAdd, Nat.reduceMul, implies_true, true_and, and_true, cond_true, cond_false]; rfl) (fun hb => ?_) (fun hb => ?_)  -- t64
    · skip
      have hlt : i < b.length := by simpa using hb
      have hn1 : nth (b.map entAV) i = entAV (b.getD i default) := nth_map entAV b i hlt
      rw [drop_cons b i hlt, List.any_cons] at hd
      generalize b.getD i default = y at *
      refine awp_skip ?_
      try simp only [go_sem, List.map_cons, List.map_nil, ↓reduceIte, Nat.reduceEqDiff, Nat.reduceLT, Nat.reduceSub, Nat.reduceAdd, Nat.reduceMul, implies_true, true_and, and_true, cond_true, cond_false]
      refine hK3 _ _ _ ?_
      first | clear hK3 K3 | skip
      refine awp_seq_k fun K4 hK4 => ?_
      refine awp_block ?_
      refine awp_seq_k fun K5 hK5 => ?_
      refine awp_reg zs [1, 2, 3, 4, 5, 6, 7, 8, 18, 73] fun K hK => ?_  -- region 7
      try simp only [go_sem, List.map_cons, List.map_nil, ↓reduceIte, Nat.reduceEqDiff, Nat.reduceLT, Nat.reduceSub, Nat.reduceAdd, Nat.reduceMul, implies_true, true_and, and_true, cond_true, cond_false, Int.toNat_natCast, hn1]
      iterate 14 (first | (refine And.intro ?_ ?_; · first | omega | assumption | (simp; done) | (intros; simp_all; done) | decide) | skip)
      refine hK _ _ _ ?_
      clear hK K
      refine awp_cond (b := _) (by simp only [go_sem, List.map_cons, List.map_nil, ↓reduceIte, Nat.reduceEqDiff, Nat.reduceLT, Nat.reduceSub, Nat.reduceAdd, Nat.reduceMul, implies_true, true_and, and_true, cond_true, cond_false]; rfl) (fun hb => ?_) (fun hb => ?_)  -- t73
      · skip
        have hy : olderX low a y = true := by unfold olderX; rw [hb]; rfl
        have hq : munseenB s clock more t vn low a b = true := by unfold munseenB; rw [he, cond_false, ← hd, hy]; rfl
        refine awp_reg zs [16] fun K hK => ?_  -- region 8
        try simp only [go_sem, List.map_cons, List.map_nil, ↓reduceIte, Nat.reduceEqDiff, Nat.reduceLT, Nat.reduceSub, Nat.reduceAdd, Nat.reduceMul, implies_true, true_and, and_true, cond_true, cond_false]
        iterate 14 (first | (refine And.intro ?_ ?_; · first | omega | assumption | (simp; done) | (intros; simp_all; done) | decide) | skip)
        refine hK _ _ _ ?_
        clear hK K
        refine awp_ret ?_
        try simp only [go_sem, List.map_cons, List.map_nil, ↓reduceIte, Nat.reduceEqDiff, Nat.reduceLT, Nat.reduceSub, Nat.reduceAdd, Nat.reduceMul, implies_true, true_and, and_true, cond_true, cond_false]
        refine ⟨_, rfl, ?_, Frz.eq ?_ trivial⟩
        · intro k hk; have h0 : k ≠ n := by omega
          simp [Heap.put, h0]
        · rw [hq]
      · skip
        have hy1 : decide (y.ts ≤ low) = false := hb
        refine awp_skip ?_
        try simp only [go_sem, List.map_cons, List.map_nil, ↓reduceIte, Nat.reduceEqDiff, Nat.reduceLT, Nat.reduceSub, Nat.reduceAdd, Nat.reduceMul, implies_true, true_and, and_true, cond_true, cond_false]
        refine hK5 _ _ _ ?_
        first | clear hK5 K5 | skip
        refine awp_reg zs [1, 2, 3, 4, 5, 6, 7, 8, 18, 19] fun K hK => ?_  -- region 9
        try simp only [go_sem, List.map_cons, List.map_nil, ↓reduceIte, Nat.reduceEqDiff, Nat.reduceLT, Nat.reduceSub, Nat.reduceAdd, Nat.reduceMul, implies_true, true_and, and_true, cond_true, cond_false]
        iterate 14 (first | (refine And.intro ?_ ?_; · first | omega | assumption | (simp; done) | (intros; simp_all; done) | decide) | skip)
        refine hK _ _ _ ?_
        clear hK K
        refine awp_block ?_
        -- loop 1: head [1, 2, 3, 4, 5, 6, 7, 8, 18, 19]
        refine awp_loop (fun T' H' n' => ∃ j : Nat, j ≤ a.length ∧ T' = tl [(1, .int .i64 clock), (2, .int .i64 more), (3, .int .i64 t), (4, .int .i64 vn), (5, .int .i64 low), (6, .sl 7 (a.map entAV)), (7, .sl 7 (b.map entAV)), (8, .loc n 0 0 0 []), (18, .int .i64 i), (19, .int .i64 j)] ∧ H' = H.put n (some (.arr 0 1 [schAV s])) ∧ n' = n + 1 ∧ (a.drop j).any (fun x => decide (y.seq ≤ x.seq)) = a.any (fun x => decide (y.seq ≤ x.seq))) (fun T' _ _ => a.length - iv (T' 19)) ?_ ?_
        · skip
          exact ⟨0, Nat.zero_le _, rfl, rfl, rfl, rfl⟩
        intro T1 H1 n1
        rintro ⟨j, hj, rfl, rfl, rfl, hd2⟩
        refine awp_seq_k fun K6 hK6 => ?_
        refine awp_reg zs [1, 2, 3, 4, 5, 6, 7, 8, 18, 19, 77] fun K hK => ?_  -- region 10
        try simp only [go_sem, List.map_cons, List.map_nil, ↓reduceIte, Nat.reduceEqDiff, Nat.reduceLT, Nat.reduceSub, Nat.reduceAdd, Nat.reduceMul, implies_true, true_and, and_true, cond_true, cond_false]
        iterate 14 (first | (refine And.intro ?_ ?_; · first | omega | assumption | (simp; done) | (intros; simp_all; done) | decide) | skip)
        refine hK _ _ _ ?_
        clear hK K
        refine awp_cond (b := _) (by simp only [go_sem, List.map_cons, List.map_nil, ↓reduceIte, Nat.reduceEqDiff, Nat.reduceLT, Nat.reduceSub, Nat.reduceAdd, Nat.reduceMul, implies_true, true_and, and_true, cond_true, cond_false]; rfl) (fun hb => ?_) (fun hb => ?_)  -- t77
        · skip
          have hlt2 : j < a.length := by simpa using hb
          have hn2 : nth (a.map entAV) j = entAV (a.getD j default) := nth_map entAV a j hlt2
          rw [drop_cons a j hlt2, List.any_cons] at hd2
          generalize a.getD j default = x at *
          refine awp_skip ?_
          try simp only [go_sem, List.map_cons, List.map_nil, ↓reduceIte, Nat.reduceEqDiff, Nat.reduceLT, Nat.reduceSub, Nat.reduceAdd, Nat.reduceMul, implies_true, true_and, and_true, cond_true, cond_false]
          refine hK6 _ _ _ ?_
          first | clear hK6 K6 | skip
          refine awp_seq_k fun K7 hK7 => ?_
          refine awp_block ?_
          refine awp_drw rfl zs [1, 2, 3, 4, 5, 6, 7, 8, 18, 19, 90] [.m, .m, .q, .q, .q, .m, .m, .q, .q, .q, .q] (by kernel_rfl) (fun _ _ _ _ _ h => h) fun K hK => ?_  -- region 12
          try simp only [go_sem, List.map_cons, List.map_nil, ↓reduceIte, Nat.reduceEqDiff, Nat.reduceLT, Nat.reduceSub, Nat.reduceAdd, Nat.reduceMul, implies_true, true_and, and_true, cond_true, cond_false, Int.toNat_natCast, hn1, hn2]
          iterate 14 (first | (refine And.intro ?_ ?_; · first | omega | assumption | (simp; done) | (intros; simp_all; done) | decide) | skip)
          refine hK _ _ _ ?_
          clear hK K
          refine awp_cond (b := _) (by simp only [go_sem, List.map_cons, List.map_nil, ↓reduceIte, Nat.reduceEqDiff, Nat.reduceLT, Nat.reduceSub, Nat.reduceAdd, Nat.reduceMul, implies_true, true_and, and_true, cond_true, cond_false]; rfl) (fun hb => ?_) (fun hb => ?_)  -- t90
          · skip
            have hx : decide (y.seq ≤ x.seq) = true := hb
            have hq : munseenB s clock more t vn low a b = true := by unfold munseenB; rw [he, cond_false, ← hd]; unfold olderX; rw [← hd2, hx]; simp
            refine awp_reg zs [16] fun K hK => ?_  -- region 13
            try simp only [go_sem, List.map_cons, List.map_nil, ↓reduceIte, Nat.reduceEqDiff, Nat.reduceLT, Nat.reduceSub, Nat.reduceAdd, Nat.reduceMul, implies_true, true_and, and_true, cond_true, cond_false]
            iterate 14 (first | (refine And.intro ?_ ?_; · first | omega | assumption | (simp; done) | (intros; simp_all; done) | decide) | skip)
            refine hK _ _ _ ?_
            clear hK K
            refine awp_ret ?_
            try simp only [go_sem, List.map_cons, List.map_nil, ↓reduceIte, Nat.reduceEqDiff, Nat.reduceLT, Nat.reduceSub, Nat.reduceAdd, Nat.reduceMul, implies_true, true_and, and_true, cond_true, cond_false]
            refine ⟨_, rfl, ?_, Frz.eq ?_ trivial⟩
            · intro k hk; have h0 : k ≠ n := by omega
              simp [Heap.put, h0]
            · rw [hq]
          · skip
            have hx : decide (y.seq ≤ x.seq) = false := hb
            refine awp_skip ?_
            try simp only [go_sem, List.map_cons, List.map_nil, ↓reduceIte, Nat.reduceEqDiff, Nat.reduceLT, Nat.reduceSub, Nat.reduceAdd, Nat.reduceMul, implies_true, true_and, and_true, cond_true, cond_false]
            refine hK7 _ _ _ ?_
            first | clear hK7 K7 | skip
            refine awp_reg1 zs [1, 2, 3, 4, 5, 6, 7, 8, 18, 19] fun K hK => ?_  -- region 11
            try simp only [go_sem, List.map_cons, List.map_nil, ↓reduceIte, Nat.reduceEqDiff, Nat.reduceLT, Nat.reduceSub, Nat.reduceAdd, Nat.reduceMul, implies_true, true_and, and_true, cond_true, cond_false]
            iterate 14 (first | (refine And.intro ?_ ?_; · first | omega | assumption | (simp; done) | (intros; simp_all; done) | decide) | skip)
            refine hK _ _ _ ?_
            clear hK K
            try simp only [go_sem, List.map_cons, List.map_nil, ↓reduceIte, Nat.reduceEqDiff, Nat.reduceLT, Nat.reduceSub, Nat.reduceAdd, Nat.reduceMul, implies_true, true_and, and_true, cond_true, cond_false]
            refine ⟨⟨j + 1, by omega, by rw [w1 (by omega)], by rw [← hd2, hx]; rfl⟩, by rw [w1 (by omega)]; simp; omega⟩
        · skip
          have hge2 : j = a.length := by simp at hb; omega
          have hy : olderX low a y = false := by unfold olderX; rw [hy1, ← hd2, hge2]; simp
          refine awp_exit ?_
          try simp only [go_sem, List.map_cons, List.map_nil, ↓reduceIte, Nat.reduceEqDiff, Nat.reduceLT, Nat.reduceSub, Nat.reduceAdd, Nat.reduceMul, implies_true, true_and, and_true, cond_true, cond_false]
          refine hK4 _ _ _ ?_
          first | clear hK4 K4 | skip
          refine awp_reg1 zs [1, 2, 3, 4, 5, 6, 7, 8, 18] fun K hK => ?_  -- region 6
          try simp only [go_sem, List.map_cons, List.map_nil, ↓reduceIte, Nat.reduceEqDiff, Nat.reduceLT, Nat.reduceSub, Nat.reduceAdd, Nat.reduceMul, implies_true, true_and, and_true, cond_true, cond_false]
          iterate 14 (first | (refine And.intro ?_ ?_; · first | omega | assumption | (simp; done) | (intros; simp_all; done) | decide) | skip)
          refine hK _ _ _ ?_
          clear hK K
          try simp only [go_sem, List.map_cons, List.map_nil, ↓reduceIte, Nat.reduceEqDiff, Nat.reduceLT, Nat.reduceSub, Nat.reduceAdd, Nat.reduceMul, implies_true, true_and, and_true, cond_true, cond_false]
          refine ⟨⟨i + 1, by omega, by rw [w1 (by omega)], by rw [← hd, hy]; rfl⟩, by rw [w1 (by omega)]; simp; omega⟩
    · skip
      have hge : i = b.length := by simp at hb; omega
      have hq : munseenB s clock more t vn low a b = bif (squashE s clock true low a).2 == 0 then agreeB s (IntKind.i64.wrap (clock + more)) t vn (a ++ b) ((squashE s clock true low a).1 ++ b) else false := by unfold munseenB; rw [he, cond_false, ← hd, hge]; simp
      refine awp_exit ?_
      try simp only [go_sem, List.map_cons, List.map_nil, ↓reduceIte, Nat.reduceEqDiff, Nat.reduceLT, Nat.reduceSub, Nat.reduceAdd, Nat.reduceMul, implies_true, true_and, and_true, cond_true, cond_false]
      refine hK2 _ _ _ ?_
      first | clear hK2 K2 | skip
      refine awp_reg zs [1, 2, 3, 4, 6, 7, 8, 20, 21] fun K hK => ?_  -- region 14
      try simp only [go_sem, List.map_cons, List.map_nil, ↓reduceIte, Nat.reduceEqDiff, Nat.reduceLT, Nat.reduceSub, Nat.reduceAdd, Nat.reduceMul, implies_true, true_and, and_true, cond_true, cond_false]
      iterate 14 (first | (refine And.intro ?_ ?_; · first | omega | assumption | (simp; done) | (intros; simp_all; done) | decide) | skip)
      refine callK_use Try.func15 rfl rfl rfl ((c_retain_Squash s clock low true a (by omega) _ _)) ?_
      try simp only [go_sem, List.map_cons, List.map_nil, ↓reduceIte, Nat.reduceEqDiff, Nat.reduceLT, Nat.reduceSub, Nat.reduceAdd, Nat.reduceMul, implies_true, true_and, and_true, cond_true, cond_false]
      iterate 14 (first | (refine And.intro ?_ ?_; · first | omega | assumption | (simp; done) | (intros; simp_all; done) | decide) | skip)
      refine hK _ _ _ ?_
      clear hK K
      refine awp_drw rfl zs [16] [.m, .c, .q, .m, .q, .m, .m, .q, .m, .m, .m, .m, .c, .m, .m, .c, .c, .q, .q] (by kernel_rfl) (fun _ _ _ _ _ h => h) fun K hK => ?_  -- region 15
      try simp only [go_sem, List.map_cons, List.map_nil, ↓reduceIte, Nat.reduceEqDiff, Nat.reduceLT, Nat.reduceSub, Nat.reduceAdd, Nat.reduceMul, implies_true, true_and, and_true, cond_true, cond_false]
      iterate 14 (first | (refine And.intro ?_ ?_; · first | omega | assumption | (simp; done) | (intros; simp_all; done) | decide) | skip)
      refine callQG_use Try.func16 rfl rfl rfl (fun _ n => (by apply c_law_num <;> first | assumption | omega)) ?_
      try simp only [go_sem, List.map_cons, List.map_nil, ↓reduceIte, Nat.reduceEqDiff, Nat.reduceLT, Nat.reduceSub, Nat.reduceAdd, Nat.reduceMul, implies_true, true_and, and_true, cond_true, cond_false]
      iterate 14 (first | (refine And.intro ?_ ?_; · first | omega | assumption | (simp; done) | (intros; simp_all; done) | decide) | skip)
      refine callQG_use Try.func14 rfl rfl rfl (fun _ n => (c_law_join a b (by omega) (by omega) hfa hfb _ _)) ?_
      try simp only [go_sem, List.map_cons, List.map_nil, ↓reduceIte, Nat.reduceEqDiff, Nat.reduceLT, Nat.reduceSub, Nat.reduceAdd, Nat.reduceMul, implies_true, true_and, and_true, cond_true, cond_false]
      iterate 14 (first | (refine And.intro ?_ ?_; · first | omega | assumption | (simp; done) | (intros; simp_all; done) | decide) | skip)
      refine callQG_use Try.func14 rfl rfl rfl (fun _ n => (c_law_join (squashE s clock true low a).1 b (by omega) (by omega) (squashE_fits s clock low true a) hfb _ _)) ?_
      try simp only [go_sem, List.map_cons, List.map_nil, ↓reduceIte, Nat.reduceEqDiff, Nat.reduceLT, Nat.reduceSub, Nat.reduceAdd, Nat.reduceMul, implies_true, true_and, and_true, cond_true, cond_false]
      iterate 14 (first | (refine And.intro ?_ ?_; · first | omega | assumption | (simp; done) | (intros; simp_all; done) | decide) | skip)
      refine callQG_use Try.func17 rfl rfl rfl (fun _ n => (c_law_agree s (IntKind.i64.wrap (clock + more)) t vn (a ++ b) ((squashE s clock true low a).1 ++ b) hab hlb hr hv _ _)) ?_
      try simp only [go_sem, List.map_cons, List.map_nil, ↓reduceIte, Nat.reduceEqDiff, Nat.reduceLT, Nat.reduceSub, Nat.reduceAdd, Nat.reduceMul, implies_true, true_and, and_true, cond_true, cond_false]
      iterate 14 (first | (refine And.intro ?_ ?_; · first | omega | assumption | (simp; done) | (intros; simp_all; done) | decide) | skip)
      refine hK _ _ _ ?_
      clear hK K
      refine awp_ret ?_
      try simp only [go_sem, List.map_cons, List.map_nil, ↓reduceIte, Nat.reduceEqDiff, Nat.reduceLT, Nat.reduceSub, Nat.reduceAdd, Nat.reduceMul, implies_true, true_and, and_true, cond_true, cond_false]
      refine ⟨_, rfl, ?_, Frz.eq ?_ trivial⟩
      · intro k hk; have h0 : k ≠ n := by omega
        simp [Heap.put, h0]
      · rw [hq]


end Go.Proofs.Ytijhkfhflpmajaa
namespace Go.Proofs.Ytijhkfhflpmajaa
open Go Go.Sx Go.Rt Go.Proofs

def keyOf (parts : List Int) (i : Nat) : Int := if i < parts.length then intBits .and .i64 (parts.getD i default) 3 else 0
def partL (l : List Ent) (parts : List Int) (p : Int) : Nat → List Ent
  | 0 => []
  | i + 1 => if keyOf parts i = p then partL l parts p i ++ [l.getD i default] else partL l parts p i
def atE (clock : Int) (earlier : List Int) (p : Nat) : Int := if p < earlier.length ∧ 0 ≤ earlier.getD p default ∧ earlier.getD p default < clock then earlier.getD p default else clock
def mmStep (s : List Fml) (clock : Int) (l : List Ent) (parts earlier : List Int) (p : Nat) (left : List Ent) : Option (List Ent) :=
  if (squashE s (atE clock earlier p) false 0 (partL l parts p l.length)).2 ≠ 0 then none
  else if p = 2 then
    (if (squashE s (atE clock earlier p) false 0 (left ++ (squashE s (atE clock earlier p) false 0 (partL l parts p l.length)).1)).2 ≠ 0 then none
      else some (squashE s (atE clock earlier p) false 0 (left ++ (squashE s (atE clock earlier p) false 0 (partL l parts p l.length)).1)).1)
  else some (left ++ (squashE s (atE clock earlier p) false 0 (partL l parts p l.length)).1)
def mmLeft (s : List Fml) (clock : Int) (l : List Ent) (parts earlier : List Int) : Nat → Option (List Ent)
  | 0 => some []
  | p + 1 => (mmLeft s clock l parts earlier p).bind (mmStep s clock l parts earlier p)
def mmEnd (s : List Fml) (clock low : Int) (want : List Ent) : Option (List Ent) → Bool
  | none => false
  | some left => bif (squashE s clock true low left).2 == 0 then decide ((squashE s clock true low left).1 = want) else false
def minorsB (s : List Fml) (clock low : Int) (l : List Ent) (parts earlier : List Int) : Bool :=
  bif (squashE s clock true low l).2 != 0 then decide ((squashE s clock true low l).1.length = 0)
  else if ∀ j, j < l.length → apartE (l.take j) [l.getD j default] = true then mmEnd s clock low (squashE s clock true low l).1 (mmLeft s clock l parts earlier 4)
  else true

theorem partL_len (l : List Ent) (parts : List Int) (p : Int) : ∀ i, (partL l parts p i).length ≤ i
  | 0 => Nat.le_refl _
  | i + 1 => by
    have := partL_len l parts p i
    rw [partL]
    split
    · simp; exact this
    · omega
theorem partL_fits {l : List Ent} (hf : ∀ e ∈ l, e.fits) (parts : List Int) (p : Int) : ∀ i, i ≤ l.length → ∀ e ∈ partL l parts p i, e.fits
  | 0, _, e, he => by cases he
  | i + 1, hi, e, he => by
    rw [partL] at he
    split at he
    · rcases List.mem_append.1 he with h | h
      · exact partL_fits hf parts p i (by omega) e h
      · have : e = l.getD i default := by simpa using h
        rw [this]
        exact hf _ (by simp [List.getD, List.getElem?_eq_getElem (show i < l.length by omega)])
    · exact partL_fits hf parts p i (by omega) e he
def mmBnd : Nat → Nat
  | 0 => 0
  | p + 1 => 2 * (mmBnd p + 2097154) + 1
theorem mmLeft_ok {s : List Fml} {clock : Int} {l : List Ent} (hl : l.length ≤ 1048576) (hf : ∀ e ∈ l, e.fits) (parts earlier : List Int) : ∀ p left, mmLeft s clock l parts earlier p = some left → left.length ≤ mmBnd p ∧ ∀ e ∈ left, e.fits
  | 0, left, h => by
    have : left = [] := by simpa [mmLeft] using h.symm
    subst this; exact ⟨Nat.le_refl _, fun e he => by cases he⟩
  | p + 1, left, h => by
    rw [mmLeft] at h
    cases h0 : mmLeft s clock l parts earlier p with
    | none => rw [h0] at h; cases h
    | some lf =>
      obtain ⟨h1, h2⟩ := mmLeft_ok hl hf parts earlier p lf h0
      have h3 := partL_len l parts p l.length
      have h4 := squashE_length s (atE clock earlier p) false 0 (partL l parts p l.length)
      have h5 := squashE_fits s (atE clock earlier p) 0 false (partL l parts p l.length)
      rw [h0] at h
      simp only [Option.bind_some, mmStep] at h
      generalize (squashE s (atE clock earlier p) false 0 (partL l parts p l.length)).1 = m at *
      have h6 : ∀ e ∈ lf ++ m, e.fits := fun e he => (List.mem_append.1 he).elim (h2 e) (h5 e)
      have h7 : (lf ++ m).length ≤ mmBnd p + 2097154 := by rw [List.length_append]; omega
      have h8 := squashE_length s (atE clock earlier p) false 0 (lf ++ m)
      have h9 := squashE_fits s (atE clock earlier p) 0 false (lf ++ m)
      rw [show mmBnd (p + 1) = 2 * (mmBnd p + 2097154) + 1 from rfl]
      generalize mmBnd p = B at *
      clear h0 hf h2 h5
      split at h
      · cases h
      split at h
      · split at h
        · cases h
        · cases h; exact ⟨Nat.le_trans h8 (Nat.succ_le_succ (Nat.mul_le_mul_left 2 h7)), h9⟩
      · cases h; exact ⟨Nat.le_trans h7 (Nat.le_succ_of_le (Nat.le_mul_of_pos_left _ (by decide))), h6⟩
theorem mmBnd_le {p : Nat} (h : p ≤ 4) : mmBnd p ≤ 62914635 := by
  have : p = 0 ∨ p = 1 ∨ p = 2 ∨ p = 3 ∨ p = 4 := by omega
  rcases this with rfl | rfl | rfl | rfl | rfl <;> simp [mmBnd]

theorem mm_none {s : List Fml} {clock : Int} {l : List Ent} {parts earlier : List Int} {p : Nat} (hp : p + 1 ≤ 4) (h : mmLeft s clock l parts earlier (p + 1) = none) : mmLeft s clock l parts earlier 4 = none := by
  have key : ∀ k, mmLeft s clock l parts earlier (p + 1 + k) = none := by
    intro k
    induction k with
    | zero => exact h
    | succ k ih => rw [← Nat.add_assoc, mmLeft, ih]; rfl
  have := key (3 - p)
  rwa [show p + 1 + (3 - p) = 4 by omega] at this

set_option maxRecDepth 100000 in
set_option maxHeartbeats 6400000 in
theorem c_law_RetainMajorOfMinors (s : List Fml) (clock low : Int) (l : List Ent) (parts earlier : List Int) (hl : l.length ≤ 1048576) (hf : ∀ e ∈ l, e.fits) (H : Heap) (n : Nat) :
    Ret Try.prog 6 [schAV s, .int .i64 clock, .int .i64 low, entsAV l, intsAV parts, intsAV earlier] H n (.bool (minorsB s clock low l parts earlier)) H n := by
  have hsl := squashE_length s clock true low l
  have hok := fun p left => @mmLeft_ok s clock l hl hf parts earlier p left
  have hpl := fun p => partL_len l parts p l.length
  refine Ret.fin ?_
  refine acalls_of_awp Try.func6 rfl Try.ntmps6 (congrArg Array.toList Try.results6) (by simp) ?_
  simp only [go_sem]
  refine awp_reg zs [1, 2, 3, 4, 5, 6] fun K hK => ?_  -- region 0
  try simp only [go_sem, List.map_cons, List.map_nil, ↓reduceIte, Nat.reduceEqDiff, Nat.reduceLT, Nat.reduceSub, Nat.reduceAdd, Nat.reduceMul, implies_true, true_and, and_true, cond_true, cond_false]
  iterate 14 (first | (refine And.intro ?_ ?_; · first | omega | assumption | (simp; done) | (intros; simp_all; done) | decide) | skip)
  refine hK _ _ _ ?_
  clear hK K
  refine awp_reg zs [1, 2, 3, 4, 5, 6, 13] fun K hK => ?_  -- region 1
  try simp only [go_sem, List.map_cons, List.map_nil, ↓reduceIte, Nat.reduceEqDiff, Nat.reduceLT, Nat.reduceSub, Nat.reduceAdd, Nat.reduceMul, implies_true, true_and, and_true, cond_true, cond_false]
  iterate 14 (first | (refine And.intro ?_ ?_; · first | omega | assumption | (simp; done) | (intros; simp_all; done) | decide) | skip)
  refine callK_use Try.func11 rfl rfl rfl ((c_law_started _ _)) ?_
  try simp only [go_sem, List.map_cons, List.map_nil, ↓reduceIte, Nat.reduceEqDiff, Nat.reduceLT, Nat.reduceSub, Nat.reduceAdd, Nat.reduceMul, implies_true, true_and, and_true, cond_true, cond_false]
  iterate 14 (first | (refine And.intro ?_ ?_; · first | omega | assumption | (simp; done) | (intros; simp_all; done) | decide) | skip)
  refine hK _ _ _ ?_
  clear hK K
  refine awp_reg zs [1, 2, 3, 4, 5, 6, 13, 14, 15] fun K hK => ?_  -- region 2
  try simp only [go_sem, List.map_cons, List.map_nil, ↓reduceIte, Nat.reduceEqDiff, Nat.reduceLT, Nat.reduceSub, Nat.reduceAdd, Nat.reduceMul, implies_true, true_and, and_true, cond_true, cond_false]
  iterate 14 (first | (refine And.intro ?_ ?_; · first | omega | assumption | (simp; done) | (intros; simp_all; done) | decide) | skip)
  refine callK_use Try.func15 rfl rfl rfl ((c_retain_Squash s clock low true l (by omega) _ _)) ?_
  try simp only [go_sem, List.map_cons, List.map_nil, ↓reduceIte, Nat.reduceEqDiff, Nat.reduceLT, Nat.reduceSub, Nat.reduceAdd, Nat.reduceMul, implies_true, true_and, and_true, cond_true, cond_false]
  iterate 14 (first | (refine And.intro ?_ ?_; · first | omega | assumption | (simp; done) | (intros; simp_all; done) | decide) | skip)
  refine hK _ _ _ ?_
  clear hK K
  refine awp_seq_k fun K1 hK1 => ?_
  refine awp_reg zs [1, 2, 3, 4, 5, 6, 13, 14, 42] fun K hK => ?_  -- region 3
  try simp only [go_sem, List.map_cons, List.map_nil, ↓reduceIte, Nat.reduceEqDiff, Nat.reduceLT, Nat.reduceSub, Nat.reduceAdd, Nat.reduceMul, implies_true, true_and, and_true, cond_true, cond_false]
  iterate 14 (first | (refine And.intro ?_ ?_; · first | omega | assumption | (simp; done) | (intros; simp_all; done) | decide) | skip)
  refine callG_use Try.func16 rfl rfl rfl (fun _ => (by apply c_law_num <;> first | assumption | omega)) ?_
  try simp only [go_sem, List.map_cons, List.map_nil, ↓reduceIte, Nat.reduceEqDiff, Nat.reduceLT, Nat.reduceSub, Nat.reduceAdd, Nat.reduceMul, implies_true, true_and, and_true, cond_true, cond_false]
  iterate 14 (first | (refine And.intro ?_ ?_; · first | omega | assumption | (simp; done) | (intros; simp_all; done) | decide) | skip)
  refine hK _ _ _ ?_
  clear hK K
  refine awp_cond (b := _) (by simp only [go_sem, List.map_cons, List.map_nil, ↓reduceIte, Nat.reduceEqDiff, Nat.reduceLT, Nat.reduceSub, Nat.reduceAdd, Nat.reduceMul, implies_true, true_and, and_true, cond_true, cond_false]; rfl) (fun hb => ?_) (fun hb => ?_)  -- t42
  · skip
    have h1 : ((squashE s clock true low l).2 != 0) = true := hb
    have hq : minorsB s clock low l parts earlier = decide ((squashE s clock true low l).1.length = 0) := by unfold minorsB; rw [h1, cond_true]
    refine awp_reg zs [12] fun K hK => ?_  -- region 4
    try simp only [go_sem, List.map_cons, List.map_nil, ↓reduceIte, Nat.reduceEqDiff, Nat.reduceLT, Nat.reduceSub, Nat.reduceAdd, Nat.reduceMul, implies_true, true_and, and_true, cond_true, cond_false]
    iterate 14 (first | (refine And.intro ?_ ?_; · first | omega | assumption | (simp; done) | (intros; simp_all; done) | decide) | skip)
    refine hK _ _ _ ?_
    clear hK K
    refine awp_ret ?_
    try simp only [go_sem, List.map_cons, List.map_nil, ↓reduceIte, Nat.reduceEqDiff, Nat.reduceLT, Nat.reduceSub, Nat.reduceAdd, Nat.reduceMul, implies_true, true_and, and_true, cond_true, cond_false]
    refine ⟨_, rfl, fun k hk => ?_, Frz.eq ?_ trivial⟩
    · have h0 : k ≠ n := by omega
      first | exact hrest k hk | (simp [Heap.put, h0]; done) | (have h9 : k ≠ n1 := (by omega); simp only [Heap.put, h9, if_false]; exact hrest k hk)
    · first | (rw [hq2]; done) | (rw [hq]; done) | (rw [hq]; congr 1; rw [Bool.eq_iff_iff]; simp; done) | (rw [hq]; congr 1; rw [Bool.eq_iff_iff]; simp; omega) | trace_state
  · skip
    have h1 : ((squashE s clock true low l).2 != 0) = false := hb
    refine awp_skip ?_
    try simp only [go_sem, List.map_cons, List.map_nil, ↓reduceIte, Nat.reduceEqDiff, Nat.reduceLT, Nat.reduceSub, Nat.reduceAdd, Nat.reduceMul, implies_true, true_and, and_true, cond_true, cond_false]
    refine hK1 _ _ _ ?_
    first | clear hK1 K1 | skip
    refine awp_seq_k fun K2 hK2 => ?_
    refine awp_reg zs [1, 2, 3, 4, 5, 6, 14, 16] fun K hK => ?_  -- region 5
    try simp only [go_sem, List.map_cons, List.map_nil, ↓reduceIte, Nat.reduceEqDiff, Nat.reduceLT, Nat.reduceSub, Nat.reduceAdd, Nat.reduceMul, implies_true, true_and, and_true, cond_true, cond_false]
    iterate 14 (first | (refine And.intro ?_ ?_; · first | omega | assumption | (simp; done) | (intros; simp_all; done) | decide) | skip)
    refine hK _ _ _ ?_
    clear hK K
    refine awp_block ?_
    -- loop 0: head [1, 2, 3, 4, 5, 6, 14, 16]
    refine awp_loop (fun T' H' n' => ∃ i : Nat, i ≤ l.length ∧ T' = tl [(1, .int .i64 clock), (2, .int .i64 low), (3, .sl 7 (l.map entAV)), (4, .sl 1 (parts.map fun x => .int .i64 x)), (5, .sl 1 (earlier.map fun x => .int .i64 x)), (6, .loc n 0 0 0 []), (14, .sl 7 ((squashE s clock true low l).1.map entAV)), (16, .int .i64 i)] ∧ H' = H.put n (some (.arr 0 1 [schAV s])) ∧ n' = n + 1 ∧ ∀ j, j < i → apartE (l.take j) [l.getD j default] = true) (fun T' _ _ => l.length - iv (T' 16)) ?_ ?_
    · skip
      exact ⟨0, Nat.zero_le _, rfl, rfl, rfl, fun j hj => absurd hj (Nat.not_lt_zero _)⟩
    intro T1 H1 n1
    rintro ⟨i, hi, rfl, rfl, rfl, hap⟩
    refine awp_seq_k fun K3 hK3 => ?_
    refine awp_reg zs [1, 2, 3, 4, 5, 6, 14, 16, 52] fun K hK => ?_  -- region 6
    try simp only [go_sem, List.map_cons, List.map_nil, ↓reduceIte, Nat.reduceEqDiff, Nat.reduceLT, Nat.reduceSub, Nat.reduceAdd, Nat.reduceMul, implies_true, true_and, and_true, cond_true, cond_false]
    iterate 14 (first | (refine And.intro ?_ ?_; · first | omega | assumption | (simp; done) | (intros; simp_all; done) | decide) | skip)
    refine hK _ _ _ ?_
    clear hK K
    refine awp_cond (b := _) (by simp only [go_sem, List.map_cons, List.map_nil, ↓reduceIte, Nat.reduceEqDiff, Nat.reduceLT, Nat.reduceSub, Nat.reduceAdd, Nat.reduceMul, implies_true, true_and, and_true, cond_true, cond_false]; rfl) (fun hb => ?_) (fun hb => ?_)  -- t52
    · skip
      have hlt : i < l.length := by simpa using hb
      have hw1 : IntKind.i64.wrap ((i : Int) + 1) = ((i + 1 : Nat) : Int) := Rt.w1 (by omega)
      have hs1 : List.take i (List.map entAV l) = List.map entAV (List.take i l) := List.map_take.symm
      have hs2 : List.drop i (List.take (i + 1) (List.map entAV l)) = [entAV (l.getD i default)] := by
        have h9 : (List.take i (List.map entAV l)).length = i := by simp; omega
        rw [List.take_add_one, List.drop_append, List.drop_of_length_le (by omega), h9, Nat.sub_self]; simp [List.getD, List.getElem?_eq_getElem hlt]
      refine awp_skip ?_
      try simp only [go_sem, List.map_cons, List.map_nil, ↓reduceIte, Nat.reduceEqDiff, Nat.reduceLT, Nat.reduceSub, Nat.reduceAdd, Nat.reduceMul, implies_true, true_and, and_true, cond_true, cond_false]
      refine hK3 _ _ _ ?_
      first | clear hK3 K3 | skip
      refine awp_seq_k fun K4 hK4 => ?_
      refine awp_block ?_
      refine awp_drw rfl zs [1, 2, 3, 4, 5, 6, 14, 16, 64] [.m, .m, .q, .m, .m, .m, .q, .q, .c, .q] (by kernel_rfl) (fun _ _ _ _ _ h => h) fun K hK => ?_  -- region 8
      try simp only [go_sem, List.map_cons, List.map_nil, ↓reduceIte, Nat.reduceEqDiff, Nat.reduceLT, Nat.reduceSub, Nat.reduceAdd, Nat.reduceMul, implies_true, true_and, and_true, cond_true, cond_false, Option.getD_some, Option.getD_none, Int.toNat_natCast, Int.toNat_zero, hw1, hs1, hs2, List.length_map, List.drop_zero]
      iterate 14 (first | (refine And.intro ?_ ?_; · first | (refine ⟨by omega, by omega, by omega, fun m h => by cases h⟩) | omega | assumption | (simp; done) | (intros; simp_all; done) | decide) | skip)
      refine callQG_use Try.func12 rfl rfl rfl (fun _ n => (c_law_apart (l.take i) [l.getD i default] (by simp; omega) (by simp) _ _)) ?_
      try simp only [go_sem, List.map_cons, List.map_nil, ↓reduceIte, Nat.reduceEqDiff, Nat.reduceLT, Nat.reduceSub, Nat.reduceAdd, Nat.reduceMul, implies_true, true_and, and_true, cond_true, cond_false, Option.getD_some, Option.getD_none, Int.toNat_natCast, Int.toNat_zero, hw1, hs1, hs2, List.length_map, List.drop_zero]
      iterate 14 (first | (refine And.intro ?_ ?_; · first | (refine ⟨by omega, by omega, by omega, fun m h => by cases h⟩) | omega | assumption | (simp; done) | (intros; simp_all; done) | decide) | skip)
      refine hK _ _ _ ?_
      clear hK K
      refine awp_cond (b := _) (by simp only [go_sem, List.map_cons, List.map_nil, ↓reduceIte, Nat.reduceEqDiff, Nat.reduceLT, Nat.reduceSub, Nat.reduceAdd, Nat.reduceMul, implies_true, true_and, and_true, cond_true, cond_false]; rfl) (fun hb => ?_) (fun hb => ?_)  -- t64
      · skip
        have hx : apartE (l.take i) [l.getD i default] = false := by simpa using hb
        have hq : minorsB s clock low l parts earlier = true := by unfold minorsB; rw [h1, cond_false, if_neg (fun h => by rw [h i hlt] at hx; cases hx)]
        refine awp_reg zs [12] fun K hK => ?_  -- region 9
        try simp only [go_sem, List.map_cons, List.map_nil, ↓reduceIte, Nat.reduceEqDiff, Nat.reduceLT, Nat.reduceSub, Nat.reduceAdd, Nat.reduceMul, implies_true, true_and, and_true, cond_true, cond_false]
        iterate 14 (first | (refine And.intro ?_ ?_; · first | omega | assumption | (simp; done) | (intros; simp_all; done) | decide) | skip)
        refine hK _ _ _ ?_
        clear hK K
        refine awp_ret ?_
        try simp only [go_sem, List.map_cons, List.map_nil, ↓reduceIte, Nat.reduceEqDiff, Nat.reduceLT, Nat.reduceSub, Nat.reduceAdd, Nat.reduceMul, implies_true, true_and, and_true, cond_true, cond_false]
        refine ⟨_, rfl, fun k hk => ?_, Frz.eq ?_ trivial⟩
        · have h0 : k ≠ n := by omega
          first | exact hrest k hk | (simp [Heap.put, h0]; done) | (have h9 : k ≠ n1 := (by omega); simp only [Heap.put, h9, if_false]; exact hrest k hk)
        · first | (rw [hq2]; done) | (rw [hq]; done) | (rw [hq]; congr 1; rw [Bool.eq_iff_iff]; simp; done) | (rw [hq]; congr 1; rw [Bool.eq_iff_iff]; simp; omega) | trace_state
      · skip
        have hx : apartE (l.take i) [l.getD i default] = true := by simpa using hb
        refine awp_skip ?_
        try simp only [go_sem, List.map_cons, List.map_nil, ↓reduceIte, Nat.reduceEqDiff, Nat.reduceLT, Nat.reduceSub, Nat.reduceAdd, Nat.reduceMul, implies_true, true_and, and_true, cond_true, cond_false]
        refine hK4 _ _ _ ?_
        first | clear hK4 K4 | skip
        refine awp_reg1 zs [1, 2, 3, 4, 5, 6, 14, 16] fun K hK => ?_  -- region 7
        try simp only [go_sem, List.map_cons, List.map_nil, ↓reduceIte, Nat.reduceEqDiff, Nat.reduceLT, Nat.reduceSub, Nat.reduceAdd, Nat.reduceMul, implies_true, true_and, and_true, cond_true, cond_false]
        iterate 14 (first | (refine And.intro ?_ ?_; · first | omega | assumption | (simp; done) | (intros; simp_all; done) | decide) | skip)
        refine hK _ _ _ ?_
        clear hK K
        try simp only [go_sem, List.map_cons, List.map_nil, ↓reduceIte, Nat.reduceEqDiff, Nat.reduceLT, Nat.reduceSub, Nat.reduceAdd, Nat.reduceMul, implies_true, true_and, and_true, cond_true, cond_false]
        refine ⟨⟨i + 1, by omega, by rw [w1 (by omega)], fun j hj => ?_⟩, by rw [w1 (by omega)]; simp; omega⟩
        by_cases h9 : j = i
        · subst h9; exact hx
        · exact hap j (by omega)
    · skip
      have hge : i = l.length := by simp at hb; omega
      have hq : minorsB s clock low l parts earlier = mmEnd s clock low (squashE s clock true low l).1 (mmLeft s clock l parts earlier 4) := by unfold minorsB; rw [h1, cond_false, if_pos (fun j hj => hap j (by omega))]
      refine awp_exit ?_
      try simp only [go_sem, List.map_cons, List.map_nil, ↓reduceIte, Nat.reduceEqDiff, Nat.reduceLT, Nat.reduceSub, Nat.reduceAdd, Nat.reduceMul, implies_true, true_and, and_true, cond_true, cond_false]
      refine hK2 _ _ _ ?_
      first | clear hK2 K2 | skip
      refine awp_reg zs [1, 2, 3, 4, 5, 6, 14, 17] fun K hK => ?_  -- region 10
      try simp only [go_sem, List.map_cons, List.map_nil, ↓reduceIte, Nat.reduceEqDiff, Nat.reduceLT, Nat.reduceSub, Nat.reduceAdd, Nat.reduceMul, implies_true, true_and, and_true, cond_true, cond_false]
      iterate 14 (first | (refine And.intro ?_ ?_; · first | omega | assumption | (simp; done) | (intros; simp_all; done) | decide) | skip)
      refine hK _ _ _ ?_
      clear hK K
      refine awp_seq_k fun K5 hK5 => ?_
      refine awp_wk_tmp 17 (.sl 7 []) (Wk.nilsl 7) ?_
      refine awp_reg zs [1, 2, 3, 4, 5, 6, 14, 17, 18] fun K hK => ?_  -- region 11
      try simp only [go_sem, List.map_cons, List.map_nil, ↓reduceIte, Nat.reduceEqDiff, Nat.reduceLT, Nat.reduceSub, Nat.reduceAdd, Nat.reduceMul, implies_true, true_and, and_true, cond_true, cond_false]
      iterate 14 (first | (refine And.intro ?_ ?_; · first | omega | assumption | (simp; done) | (intros; simp_all; done) | decide) | skip)
      refine hK _ _ _ ?_
      clear hK K
      refine awp_block ?_
      -- loop 1: head [1, 2, 3, 4, 5, 6, 14, 17, 18]
      refine awp_loop (fun T' H' n' => ∃ (p : Nat) (left : List Ent), p ≤ 4 ∧ mmLeft s clock l parts earlier p = some left ∧ T' = tl [(1, .int .i64 clock), (2, .int .i64 low), (3, .sl 7 (l.map entAV)), (4, .sl 1 (parts.map fun x => .int .i64 x)), (5, .sl 1 (earlier.map fun x => .int .i64 x)), (6, .loc n 0 0 0 []), (14, .sl 7 ((squashE s clock true low l).1.map entAV)), (17, .sl 7 (left.map entAV)), (18, .int .i64 p)] ∧ n + 1 ≤ n' ∧ H' n = some (.arr 0 1 [schAV s]) ∧ (∀ k, k < n → H' k = H k)) (fun T' _ _ => (4 : Nat) - iv (T' 18)) ?_ ?_
      · skip
        exact ⟨0, [], by omega, rfl, rfl, Nat.le_refl _, by simp [Heap.put, schAV], fun k hk => Heap.put_ne _ _ (by omega)⟩
      intro T1 H1 n1
      rintro ⟨p, left, hp, hleft, rfl, hn, hsc, hrest⟩
      refine awp_seq_k fun K6 hK6 => ?_
      refine awp_reg zs [1, 2, 3, 4, 5, 6, 14, 17, 18, 66] fun K hK => ?_  -- region 12
      try simp only [go_sem, List.map_cons, List.map_nil, ↓reduceIte, Nat.reduceEqDiff, Nat.reduceLT, Nat.reduceSub, Nat.reduceAdd, Nat.reduceMul, implies_true, true_and, and_true, cond_true, cond_false]
      iterate 14 (first | (refine And.intro ?_ ?_; · first | omega | assumption | (simp; done) | (intros; simp_all; done) | decide) | skip)
      refine hK _ _ _ ?_
      clear hK K
      refine awp_cond (b := _) (by simp only [go_sem, List.map_cons, List.map_nil, ↓reduceIte, Nat.reduceEqDiff, Nat.reduceLT, Nat.reduceSub, Nat.reduceAdd, Nat.reduceMul, implies_true, true_and, and_true, cond_true, cond_false]; rfl) (fun hb => ?_) (fun hb => ?_)  -- t66
      · skip
        have hp4 : p < 4 := by simp at hb; omega
        have hlb := hok p left hleft
        have hlb2 := mmBnd_le hp
        have hpp := hpl p
        have q1 : (n = n1) = False := by simp; omega
        have q2 : (n1 = n) = False := by simp; omega
        refine awp_skip ?_
        try simp only [go_sem, List.map_cons, List.map_nil, ↓reduceIte, Nat.reduceEqDiff, Nat.reduceLT, Nat.reduceSub, Nat.reduceAdd, Nat.reduceMul, implies_true, true_and, and_true, cond_true, cond_false]
        refine hK6 _ _ _ ?_
        first | clear hK6 K6 | skip
        refine awp_seq_k fun K7 hK7 => ?_
        refine awp_block ?_
        refine awp_reg zs [1, 2, 3, 4, 5, 6, 14, 17, 18, 19] fun K hK => ?_  -- region 14
        try simp only [go_sem, List.map_cons, List.map_nil, ↓reduceIte, Nat.reduceEqDiff, Nat.reduceLT, Nat.reduceSub, Nat.reduceAdd, Nat.reduceMul, implies_true, true_and, and_true, cond_true, cond_false]
        iterate 14 (first | (refine And.intro ?_ ?_; · first | omega | assumption | (simp; done) | (intros; simp_all; done) | decide) | skip)
        refine hK _ _ _ ?_
        clear hK K
        refine awp_seq_k fun K8 hK8 => ?_
        refine awp_adopt_tmp 19 7 rfl ?_
        refine awp_reg zs [1, 2, 3, 4, 5, 6, 14, 17, 18, 19, 20] fun K hK => ?_  -- region 15
        try simp only [go_sem, List.map_cons, List.map_nil, ↓reduceIte, Nat.reduceEqDiff, Nat.reduceLT, Nat.reduceSub, Nat.reduceAdd, Nat.reduceMul, implies_true, true_and, and_true, cond_true, cond_false]
        iterate 14 (first | (refine And.intro ?_ ?_; · first | omega | assumption | (simp; done) | (intros; simp_all; done) | decide) | skip)
        refine hK _ _ _ ?_
        clear hK K
        refine awp_block ?_
        -- loop 2: head [1, 2, 3, 4, 5, 6, 14, 17, 18, 19, 20]
        refine awp_loop (fun T' H' n' => ∃ i : Nat, i ≤ l.length ∧ T' = tl [(1, .int .i64 clock), (2, .int .i64 low), (3, .sl 7 (l.map entAV)), (4, .sl 1 (parts.map fun x => .int .i64 x)), (5, .sl 1 (earlier.map fun x => .int .i64 x)), (6, .loc n 0 0 0 []), (14, .sl 7 ((squashE s clock true low l).1.map entAV)), (17, .sl 7 (left.map entAV)), (18, .int .i64 p), (19, .osl n1 (partL l parts p i).length 0 (partL l parts p i).length), (20, .int .i64 i)] ∧ H' = H1.put n1 (some (.arr (partL l parts p i).length 7 ((partL l parts p i).map entAV))) ∧ n' = n1 + 1) (fun T' _ _ => l.length - iv (T' 20)) ?_ ?_
        · skip
          exact ⟨0, Nat.zero_le _, rfl, rfl, rfl⟩
        intro T1 H1 n1
        rintro ⟨i, hi, rfl, rfl, rfl⟩
        refine awp_seq_k fun K9 hK9 => ?_
        refine awp_reg zs [1, 2, 3, 4, 5, 6, 14, 17, 18, 19, 20, 72] fun K hK => ?_  -- region 16
        try simp only [go_sem, List.map_cons, List.map_nil, ↓reduceIte, Nat.reduceEqDiff, Nat.reduceLT, Nat.reduceSub, Nat.reduceAdd, Nat.reduceMul, implies_true, true_and, and_true, cond_true, cond_false]
        iterate 14 (first | (refine And.intro ?_ ?_; · first | omega | assumption | (simp; done) | (intros; simp_all; done) | decide) | skip)
        refine hK _ _ _ ?_
        clear hK K
        refine awp_cond (b := _) (by simp only [go_sem, List.map_cons, List.map_nil, ↓reduceIte, Nat.reduceEqDiff, Nat.reduceLT, Nat.reduceSub, Nat.reduceAdd, Nat.reduceMul, implies_true, true_and, and_true, cond_true, cond_false]; rfl) (fun hb => ?_) (fun hb => ?_)  -- t72
        · skip
          have hlt : i < l.length := by simpa using hb
          have hnth : nth (l.map entAV) i = entAV (l.getD i default) := nth_map entAV l i hlt
          have hpli := partL_len l parts p i
          refine awp_skip ?_
          try simp only [go_sem, List.map_cons, List.map_nil, ↓reduceIte, Nat.reduceEqDiff, Nat.reduceLT, Nat.reduceSub, Nat.reduceAdd, Nat.reduceMul, implies_true, true_and, and_true, cond_true, cond_false]
          refine hK9 _ _ _ ?_
          first | clear hK9 K9 | skip
          refine awp_seq_k fun K10 hK10 => ?_
          refine awp_block ?_
          refine awp_reg zs [1, 2, 3, 4, 5, 6, 14, 17, 18, 19, 20, 21] fun K hK => ?_  -- region 18
          try simp only [go_sem, List.map_cons, List.map_nil, ↓reduceIte, Nat.reduceEqDiff, Nat.reduceLT, Nat.reduceSub, Nat.reduceAdd, Nat.reduceMul, implies_true, true_and, and_true, cond_true, cond_false]
          iterate 14 (first | (refine And.intro ?_ ?_; · first | omega | assumption | (simp; done) | (intros; simp_all; done) | decide) | skip)
          refine hK _ _ _ ?_
          clear hK K
          refine awp_seq_k fun K11 hK11 => ?_
          refine awp_reg zs [1, 2, 3, 4, 5, 6, 14, 17, 18, 19, 20, 21, 78] fun K hK => ?_  -- region 19
          try simp only [go_sem, List.map_cons, List.map_nil, ↓reduceIte, Nat.reduceEqDiff, Nat.reduceLT, Nat.reduceSub, Nat.reduceAdd, Nat.reduceMul, implies_true, true_and, and_true, cond_true, cond_false]
          iterate 14 (first | (refine And.intro ?_ ?_; · first | omega | assumption | (simp; done) | (intros; simp_all; done) | decide) | skip)
          refine hK _ _ _ ?_
          clear hK K
          refine awp_cond (b := _) (by simp only [go_sem, List.map_cons, List.map_nil, ↓reduceIte, Nat.reduceEqDiff, Nat.reduceLT, Nat.reduceSub, Nat.reduceAdd, Nat.reduceMul, implies_true, true_and, and_true, cond_true, cond_false]; rfl) (fun hb => ?_) (fun hb => ?_)  -- t78
          · skip
            have hkp : i < parts.length := by simpa using hb
            have hn2 : nth (parts.map fun x => AV.int .i64 x) i = .int .i64 (parts.getD i default) := nth_map (fun x => AV.int .i64 x) parts i hkp
            have hk : intBits .and .i64 (parts.getD i default) 3 = keyOf parts i := by unfold keyOf; rw [if_pos hkp]
            refine awp_reg1 zs [1, 2, 3, 4, 5, 6, 14, 17, 18, 19, 20, 21] fun K hK => ?_  -- region 20
            try simp only [go_sem, List.map_cons, List.map_nil, ↓reduceIte, Nat.reduceEqDiff, Nat.reduceLT, Nat.reduceSub, Nat.reduceAdd, Nat.reduceMul, implies_true, true_and, and_true, cond_true, cond_false, Int.toNat_natCast, hn2, hk]
            iterate 14 (first | (refine And.intro ?_ ?_; · first | omega | assumption | (simp; done) | (intros; simp_all; done) | decide) | skip)
            refine hK _ _ _ ?_
            clear hK K
            try simp only [go_sem, List.map_cons, List.map_nil, ↓reduceIte, Nat.reduceEqDiff, Nat.reduceLT, Nat.reduceSub, Nat.reduceAdd, Nat.reduceMul, implies_true, true_and, and_true, cond_true, cond_false]
            refine hK11 _ _ _ ?_
            first | clear hK11 K11 | skip
            refine awp_reg zs [1, 2, 3, 4, 5, 6, 14, 17, 18, 19, 20, 86] fun K hK => ?_  -- region 21
            try simp only [go_sem, List.map_cons, List.map_nil, ↓reduceIte, Nat.reduceEqDiff, Nat.reduceLT, Nat.reduceSub, Nat.reduceAdd, Nat.reduceMul, implies_true, true_and, and_true, cond_true, cond_false]
            iterate 14 (first | (refine And.intro ?_ ?_; · first | omega | assumption | (simp; done) | (intros; simp_all; done) | decide) | skip)
            refine hK _ _ _ ?_
            clear hK K
            refine awp_cond (b := _) (by simp only [go_sem, List.map_cons, List.map_nil, ↓reduceIte, Nat.reduceEqDiff, Nat.reduceLT, Nat.reduceSub, Nat.reduceAdd, Nat.reduceMul, implies_true, true_and, and_true, cond_true, cond_false]; rfl) (fun hb => ?_) (fun hb => ?_)  -- t86
            · skip
              have hkk : keyOf parts i = p := by first | (simpa using hb) | (rw [← hk]; simp at hb; omega)
              have htk9 : List.take (partL l parts p i).length ((partL l parts p i).map entAV) = (partL l parts p i).map entAV := List.take_of_length_le (by simp)
              have hps : partL l parts p (i + 1) = partL l parts p i ++ [l.getD i default] := by rw [partL, if_pos hkk]
              refine awp_reg1 zs [1, 2, 3, 4, 5, 6, 14, 17, 18, 19, 20] fun K hK => ?_  -- region 22
              try simp only [go_sem, List.map_cons, List.map_nil, ↓reduceIte, Nat.reduceEqDiff, Nat.reduceLT, Nat.reduceSub, Nat.reduceAdd, Nat.reduceMul, implies_true, true_and, and_true, cond_true, cond_false, Int.toNat_natCast, hnth]
              iterate 14 (first | (refine And.intro ?_ ?_; · first | exact ⟨rfl, by decide, by simp [AV.sz, AV.szs, AV.memOK]⟩ | (simp; omega) | omega | assumption | (simp; done) | (intros; simp_all; done) | decide) | skip)
              refine hK _ _ _ ?_
              clear hK K
              try simp only [go_sem, List.map_cons, List.map_nil, ↓reduceIte, Nat.reduceEqDiff, Nat.reduceLT, Nat.reduceSub, Nat.reduceAdd, Nat.reduceMul, implies_true, true_and, and_true, cond_true, cond_false]
              refine hK10 _ _ _ ?_
              first | clear hK10 K10 | skip
              refine awp_reg1 zs [1, 2, 3, 4, 5, 6, 14, 17, 18, 19, 20] fun K hK => ?_  -- region 17
              try simp only [go_sem, List.map_cons, List.map_nil, ↓reduceIte, Nat.reduceEqDiff, Nat.reduceLT, Nat.reduceSub, Nat.reduceAdd, Nat.reduceMul, implies_true, true_and, and_true, cond_true, cond_false]
              iterate 14 (first | (refine And.intro ?_ ?_; · first | omega | assumption | (simp; done) | (intros; simp_all; done) | decide) | skip)
              refine hK _ _ _ ?_
              clear hK K
              try simp only [go_sem, List.map_cons, List.map_nil, ↓reduceIte, Nat.reduceEqDiff, Nat.reduceLT, Nat.reduceSub, Nat.reduceAdd, Nat.reduceMul, implies_true, true_and, and_true, cond_true, cond_false]
              refine ⟨⟨i + 1, by omega, by rw [w1 (by omega), hps] <;> simp, by rw [hps] <;> first | rfl | (simp [htk9]; rfl)⟩, by rw [w1 (by omega)]; simp; omega⟩
            · skip
              have hkk : ¬ keyOf parts i = p := by first | (simpa using hb) | (rw [← hk]; simp at hb; omega)
              have hps : partL l parts p (i + 1) = partL l parts p i := by rw [partL, if_neg hkk]
              refine awp_skip ?_
              try simp only [go_sem, List.map_cons, List.map_nil, ↓reduceIte, Nat.reduceEqDiff, Nat.reduceLT, Nat.reduceSub, Nat.reduceAdd, Nat.reduceMul, implies_true, true_and, and_true, cond_true, cond_false]
              refine hK10 _ _ _ ?_
              first | clear hK10 K10 | skip
              refine awp_reg1 zs [1, 2, 3, 4, 5, 6, 14, 17, 18, 19, 20] fun K hK => ?_  -- region 17
              try simp only [go_sem, List.map_cons, List.map_nil, ↓reduceIte, Nat.reduceEqDiff, Nat.reduceLT, Nat.reduceSub, Nat.reduceAdd, Nat.reduceMul, implies_true, true_and, and_true, cond_true, cond_false]
              iterate 14 (first | (refine And.intro ?_ ?_; · first | omega | assumption | (simp; done) | (intros; simp_all; done) | decide) | skip)
              refine hK _ _ _ ?_
              clear hK K
              try simp only [go_sem, List.map_cons, List.map_nil, ↓reduceIte, Nat.reduceEqDiff, Nat.reduceLT, Nat.reduceSub, Nat.reduceAdd, Nat.reduceMul, implies_true, true_and, and_true, cond_true, cond_false]
              refine ⟨⟨i + 1, by omega, by rw [w1 (by omega), hps] <;> simp, by rw [hps] <;> first | rfl | (simp [htk9]; rfl)⟩, by rw [w1 (by omega)]; simp; omega⟩
          · skip
            have hkp : ¬ i < parts.length := by simpa using hb
            have hk : (0 : Int) = keyOf parts i := by unfold keyOf; rw [if_neg hkp]
            refine awp_skip ?_
            try simp only [go_sem, List.map_cons, List.map_nil, ↓reduceIte, Nat.reduceEqDiff, Nat.reduceLT, Nat.reduceSub, Nat.reduceAdd, Nat.reduceMul, implies_true, true_and, and_true, cond_true, cond_false]
            refine hK11 _ _ _ ?_
            first | clear hK11 K11 | skip
            refine awp_reg zs [1, 2, 3, 4, 5, 6, 14, 17, 18, 19, 20, 86] fun K hK => ?_  -- region 21
            try simp only [go_sem, List.map_cons, List.map_nil, ↓reduceIte, Nat.reduceEqDiff, Nat.reduceLT, Nat.reduceSub, Nat.reduceAdd, Nat.reduceMul, implies_true, true_and, and_true, cond_true, cond_false]
            iterate 14 (first | (refine And.intro ?_ ?_; · first | omega | assumption | (simp; done) | (intros; simp_all; done) | decide) | skip)
            refine hK _ _ _ ?_
            clear hK K
            refine awp_cond (b := _) (by simp only [go_sem, List.map_cons, List.map_nil, ↓reduceIte, Nat.reduceEqDiff, Nat.reduceLT, Nat.reduceSub, Nat.reduceAdd, Nat.reduceMul, implies_true, true_and, and_true, cond_true, cond_false]; rfl) (fun hb => ?_) (fun hb => ?_)  -- t86
            · skip
              have hkk : keyOf parts i = p := by first | (simpa using hb) | (rw [← hk]; simp at hb; omega)
              have htk9 : List.take (partL l parts p i).length ((partL l parts p i).map entAV) = (partL l parts p i).map entAV := List.take_of_length_le (by simp)
              have hps : partL l parts p (i + 1) = partL l parts p i ++ [l.getD i default] := by rw [partL, if_pos hkk]
              refine awp_reg1 zs [1, 2, 3, 4, 5, 6, 14, 17, 18, 19, 20] fun K hK => ?_  -- region 22
              try simp only [go_sem, List.map_cons, List.map_nil, ↓reduceIte, Nat.reduceEqDiff, Nat.reduceLT, Nat.reduceSub, Nat.reduceAdd, Nat.reduceMul, implies_true, true_and, and_true, cond_true, cond_false, Int.toNat_natCast, hnth]
              iterate 14 (first | (refine And.intro ?_ ?_; · first | exact ⟨rfl, by decide, by simp [AV.sz, AV.szs, AV.memOK]⟩ | (simp; omega) | omega | assumption | (simp; done) | (intros; simp_all; done) | decide) | skip)
              refine hK _ _ _ ?_
              clear hK K
              try simp only [go_sem, List.map_cons, List.map_nil, ↓reduceIte, Nat.reduceEqDiff, Nat.reduceLT, Nat.reduceSub, Nat.reduceAdd, Nat.reduceMul, implies_true, true_and, and_true, cond_true, cond_false]
              refine hK10 _ _ _ ?_
              first | clear hK10 K10 | skip
              refine awp_reg1 zs [1, 2, 3, 4, 5, 6, 14, 17, 18, 19, 20] fun K hK => ?_  -- region 17
              try simp only [go_sem, List.map_cons, List.map_nil, ↓reduceIte, Nat.reduceEqDiff, Nat.reduceLT, Nat.reduceSub, Nat.reduceAdd, Nat.reduceMul, implies_true, true_and, and_true, cond_true, cond_false]
              iterate 14 (first | (refine And.intro ?_ ?_; · first | omega | assumption | (simp; done) | (intros; simp_all; done) | decide) | skip)
              refine hK _ _ _ ?_
              clear hK K
              try simp only [go_sem, List.map_cons, List.map_nil, ↓reduceIte, Nat.reduceEqDiff, Nat.reduceLT, Nat.reduceSub, Nat.reduceAdd, Nat.reduceMul, implies_true, true_and, and_true, cond_true, cond_false]
              refine ⟨⟨i + 1, by omega, by rw [w1 (by omega), hps] <;> simp, by rw [hps] <;> first | rfl | (simp [htk9]; rfl)⟩, by rw [w1 (by omega)]; simp; omega⟩
            · skip
              have hkk : ¬ keyOf parts i = p := by first | (simpa using hb) | (rw [← hk]; simp at hb; omega)
              have hps : partL l parts p (i + 1) = partL l parts p i := by rw [partL, if_neg hkk]
              refine awp_skip ?_
              try simp only [go_sem, List.map_cons, List.map_nil, ↓reduceIte, Nat.reduceEqDiff, Nat.reduceLT, Nat.reduceSub, Nat.reduceAdd, Nat.reduceMul, implies_true, true_and, and_true, cond_true, cond_false]
              refine hK10 _ _ _ ?_
              first | clear hK10 K10 | skip
              refine awp_reg1 zs [1, 2, 3, 4, 5, 6, 14, 17, 18, 19, 20] fun K hK => ?_  -- region 17
              try simp only [go_sem, List.map_cons, List.map_nil, ↓reduceIte, Nat.reduceEqDiff, Nat.reduceLT, Nat.reduceSub, Nat.reduceAdd, Nat.reduceMul, implies_true, true_and, and_true, cond_true, cond_false]
              iterate 14 (first | (refine And.intro ?_ ?_; · first | omega | assumption | (simp; done) | (intros; simp_all; done) | decide) | skip)
              refine hK _ _ _ ?_
              clear hK K
              try simp only [go_sem, List.map_cons, List.map_nil, ↓reduceIte, Nat.reduceEqDiff, Nat.reduceLT, Nat.reduceSub, Nat.reduceAdd, Nat.reduceMul, implies_true, true_and, and_true, cond_true, cond_false]
              refine ⟨⟨i + 1, by omega, by rw [w1 (by omega), hps] <;> simp, by rw [hps] <;> first | rfl | (simp [htk9]; rfl)⟩, by rw [w1 (by omega)]; simp; omega⟩
        · skip
          have hge : i = l.length := by simp at hb; omega
          subst hge
          refine awp_exit ?_
          try simp only [go_sem, List.map_cons, List.map_nil, ↓reduceIte, Nat.reduceEqDiff, Nat.reduceLT, Nat.reduceSub, Nat.reduceAdd, Nat.reduceMul, implies_true, true_and, and_true, cond_true, cond_false]
          refine hK8 _ _ _ ?_
          first | clear hK8 K8 | skip
          refine awp_reg zs [1, 2, 3, 4, 5, 6, 14, 17, 18, 19, 22] fun K hK => ?_  -- region 23
          try simp only [go_sem, List.map_cons, List.map_nil, ↓reduceIte, Nat.reduceEqDiff, Nat.reduceLT, Nat.reduceSub, Nat.reduceAdd, Nat.reduceMul, implies_true, true_and, and_true, cond_true, cond_false]
          iterate 14 (first | (refine And.intro ?_ ?_; · first | omega | assumption | (simp; done) | (intros; simp_all; done) | decide) | skip)
          refine hK _ _ _ ?_
          clear hK K
          refine awp_seq_j (fun T' H' n' => T' 1 = .int .i64 clock ∧ T' 2 = .int .i64 low ∧ T' 3 = .sl 7 (l.map entAV) ∧ T' 4 = .sl 1 (parts.map fun x => .int .i64 x) ∧ T' 5 = .sl 1 (earlier.map fun x => .int .i64 x) ∧ T' 6 = .loc n 0 0 0 [] ∧ T' 14 = .sl 7 ((squashE s clock true low l).1.map entAV) ∧ T' 17 = .sl 7 (left.map entAV) ∧ T' 18 = .int .i64 p ∧ T' 19 = .osl n1 (partL l parts p l.length).length 0 (partL l parts p l.length).length ∧ T' 22 = .int .i64 (atE clock earlier p) ∧ H' = H1.put n1 (some (.arr (partL l parts p l.length).length 7 ((partL l parts p l.length).map entAV))) ∧ n' = n1 + 1) ?_ ?_
          · skip
            rcases Nat.lt_or_ge p earlier.length with h24 | h24
            · skip
              have hn3 : nth (earlier.map fun x => AV.int .i64 x) p = .int .i64 (earlier.getD p default) := nth_map (fun x => AV.int .i64 x) earlier p h24
              have hd24 : decide ((p : Int) < (earlier.length : Int)) = true := decide_eq_true (by omega)
              have hj1 : qBin Try.prog 3 .geq .junk (.int .i64 0) = none := rfl
              have hj2 : qBin Try.prog 3 .lss .junk (.int .i64 clock) = none := rfl
              have hj0 : (false == true) = false := rfl
              refine awp_reg zs [1, 2, 3, 4, 5, 6, 14, 17, 18, 19, 22, 113] fun K hK => ?_  -- region 24
              try simp only [go_sem, List.map_cons, List.map_nil, ↓reduceIte, Nat.reduceEqDiff, Nat.reduceLT, Nat.reduceSub, Nat.reduceAdd, Nat.reduceMul, implies_true, true_and, and_true, cond_true, cond_false, Int.toNat_natCast, List.length_map, hn3, hd24, hj1, hj2, show (false == true) = false from rfl, show (true == true) = true from rfl]
              iterate 14 (first | (refine And.intro ?_ ?_; · first | omega | assumption | (simp; done) | (intros; simp_all; done) | decide) | skip)
              refine hK _ _ _ ?_
              clear hK K
              refine awp_cond (b := _) (by simp only [go_sem, List.map_cons, List.map_nil, ↓reduceIte, Nat.reduceEqDiff, Nat.reduceLT, Nat.reduceSub, Nat.reduceAdd, Nat.reduceMul, implies_true, true_and, and_true, cond_true, cond_false]; rfl) (fun hb => ?_) (fun hb => ?_)  -- t113
              · skip
                have h25 : p < earlier.length := by first | exact h24 | (simp at hb; done)
                have hn4 : nth (earlier.map fun x => AV.int .i64 x) p = .int .i64 (earlier.getD p default) := nth_map (fun x => AV.int .i64 x) earlier p h25
                have hat : atE clock earlier p = earlier.getD p default := by unfold atE; rw [if_pos]; first | (simp at hb; done) | (generalize earlier.getD p default = e at hb ⊢; simp at hb; omega) | trace_state
                refine awp_reg1 zs [1, 2, 3, 4, 5, 6, 14, 17, 18, 19, 22] fun K hK => ?_  -- region 25
                try simp only [go_sem, List.map_cons, List.map_nil, ↓reduceIte, Nat.reduceEqDiff, Nat.reduceLT, Nat.reduceSub, Nat.reduceAdd, Nat.reduceMul, implies_true, true_and, and_true, cond_true, cond_false, Int.toNat_natCast, hn4]
                iterate 14 (first | (refine And.intro ?_ ?_; · first | omega | assumption | (simp; done) | (intros; simp_all; done) | decide) | skip)
                refine hK _ _ _ ?_
                clear hK K
                try simp only [go_sem, List.map_cons, List.map_nil, ↓reduceIte, Nat.reduceEqDiff, Nat.reduceLT, Nat.reduceSub, Nat.reduceAdd, Nat.reduceMul, implies_true, true_and, and_true, cond_true, cond_false]
                rw [hat]; first | (simp [tl, schAV]; done) | trace_state
              · skip
                have hat : atE clock earlier p = clock := by unfold atE; rw [if_neg]; first | omega | (generalize earlier.getD p default = e at hb ⊢; simp at hb; omega) | trace_state
                refine awp_skip ?_
                try simp only [go_sem, List.map_cons, List.map_nil, ↓reduceIte, Nat.reduceEqDiff, Nat.reduceLT, Nat.reduceSub, Nat.reduceAdd, Nat.reduceMul, implies_true, true_and, and_true, cond_true, cond_false]
                rw [hat]; first | (simp [tl, schAV]; done) | trace_state
            · skip
              have hn3 : nth (earlier.map fun x => AV.int .i64 x) p = .junk := by simp [nth, List.getD, h24]
              have hd24 : decide ((p : Int) < (earlier.length : Int)) = false := decide_eq_false (by omega)
              have hj1 : qBin Try.prog 3 .geq .junk (.int .i64 0) = none := rfl
              have hj2 : qBin Try.prog 3 .lss .junk (.int .i64 clock) = none := rfl
              have hj0 : (false == true) = false := rfl
              refine awp_reg zs [1, 2, 3, 4, 5, 6, 14, 17, 18, 19, 22, 113] fun K hK => ?_  -- region 24
              try simp only [go_sem, List.map_cons, List.map_nil, ↓reduceIte, Nat.reduceEqDiff, Nat.reduceLT, Nat.reduceSub, Nat.reduceAdd, Nat.reduceMul, implies_true, true_and, and_true, cond_true, cond_false, Int.toNat_natCast, List.length_map, hn3, hd24, hj1, hj2, show (false == true) = false from rfl, show (true == true) = true from rfl]
              iterate 14 (first | (refine And.intro ?_ ?_; · first | omega | assumption | (simp; done) | (intros; simp_all; done) | decide) | skip)
              refine hK _ _ _ ?_
              clear hK K
              refine awp_cond (b := _) (by simp only [go_sem, List.map_cons, List.map_nil, ↓reduceIte, Nat.reduceEqDiff, Nat.reduceLT, Nat.reduceSub, Nat.reduceAdd, Nat.reduceMul, implies_true, true_and, and_true, cond_true, cond_false]; rfl) (fun hb => ?_) (fun hb => ?_)  -- t113
              · skip
                have h25 : p < earlier.length := by first | exact h24 | (simp at hb; done)
                have hn4 : nth (earlier.map fun x => AV.int .i64 x) p = .int .i64 (earlier.getD p default) := nth_map (fun x => AV.int .i64 x) earlier p h25
                have hat : atE clock earlier p = earlier.getD p default := by unfold atE; rw [if_pos]; first | (simp at hb; done) | (generalize earlier.getD p default = e at hb ⊢; simp at hb; omega) | trace_state
                refine awp_reg1 zs [1, 2, 3, 4, 5, 6, 14, 17, 18, 19, 22] fun K hK => ?_  -- region 25
                try simp only [go_sem, List.map_cons, List.map_nil, ↓reduceIte, Nat.reduceEqDiff, Nat.reduceLT, Nat.reduceSub, Nat.reduceAdd, Nat.reduceMul, implies_true, true_and, and_true, cond_true, cond_false, Int.toNat_natCast, hn4]
                iterate 14 (first | (refine And.intro ?_ ?_; · first | omega | assumption | (simp; done) | (intros; simp_all; done) | decide) | skip)
                refine hK _ _ _ ?_
                clear hK K
                try simp only [go_sem, List.map_cons, List.map_nil, ↓reduceIte, Nat.reduceEqDiff, Nat.reduceLT, Nat.reduceSub, Nat.reduceAdd, Nat.reduceMul, implies_true, true_and, and_true, cond_true, cond_false]
                rw [hat]; first | (simp [tl, schAV]; done) | trace_state
              · skip
                have hat : atE clock earlier p = clock := by unfold atE; rw [if_neg]; first | omega | (generalize earlier.getD p default = e at hb ⊢; simp at hb; omega) | trace_state
                refine awp_skip ?_
                try simp only [go_sem, List.map_cons, List.map_nil, ↓reduceIte, Nat.reduceEqDiff, Nat.reduceLT, Nat.reduceSub, Nat.reduceAdd, Nat.reduceMul, implies_true, true_and, and_true, cond_true, cond_false]
                rw [hat]; first | (simp [tl, schAV]; done) | trace_state
          rintro T1 _ _ ⟨t1, t2, t3, t4, t5, t6, t14, t17, t18, t19, t22, rfl, rfl⟩
          refine awp_sel [1, 2, 3, 4, 5, 6, 14, 17, 18, 19, 22] ?_
          simp only [tsel_eq, List.map_cons, List.map_nil, t1, t2, t3, t4, t5, t6, t14, t17, t18, t19, t22]
          generalize hat : atE clock earlier p = a at *
          refine awp_frz_tmp 19 (els := (partL l parts p l.length).map entAV) rfl (Heap.put_same _ _ _) (by simp) ?_
          have hms := squashE_length s a false 0 (partL l parts p l.length)
          have hmf := squashE_fits s a 0 false (partL l parts p l.length)
          refine awp_reg zs [1, 2, 3, 4, 5, 6, 14, 17, 18, 22, 23, 24] fun K hK => ?_  -- region 26
          try simp only [go_sem, List.map_cons, List.map_nil, ↓reduceIte, Nat.reduceEqDiff, Nat.reduceLT, Nat.reduceSub, Nat.reduceAdd, Nat.reduceMul, implies_true, true_and, and_true, cond_true, cond_false, hsc, q1, q2]
          iterate 14 (first | (refine And.intro ?_ ?_; · first | omega | assumption | (simp; done) | (intros; simp_all; done) | decide) | skip)
          refine callK_use Try.func15 rfl rfl rfl ((c_retain_Squash s a 0 false (partL l parts p l.length) (by omega) _ _)) ?_
          try simp only [go_sem, List.map_cons, List.map_nil, ↓reduceIte, Nat.reduceEqDiff, Nat.reduceLT, Nat.reduceSub, Nat.reduceAdd, Nat.reduceMul, implies_true, true_and, and_true, cond_true, cond_false, hsc, q1, q2]
          iterate 14 (first | (refine And.intro ?_ ?_; · first | omega | assumption | (simp; done) | (intros; simp_all; done) | decide) | skip)
          refine hK _ _ _ ?_
          clear hK K
          refine awp_seq_k fun K12 hK12 => ?_
          refine awp_reg zs [1, 2, 3, 4, 5, 6, 14, 17, 18, 22, 23, 127] fun K hK => ?_  -- region 27
          try simp only [go_sem, List.map_cons, List.map_nil, ↓reduceIte, Nat.reduceEqDiff, Nat.reduceLT, Nat.reduceSub, Nat.reduceAdd, Nat.reduceMul, implies_true, true_and, and_true, cond_true, cond_false]
          iterate 14 (first | (refine And.intro ?_ ?_; · first | omega | assumption | (simp; done) | (intros; simp_all; done) | decide) | skip)
          refine callK_use Try.func16 rfl rfl rfl ((by apply c_law_num <;> first | assumption | omega)) ?_
          try simp only [go_sem, List.map_cons, List.map_nil, ↓reduceIte, Nat.reduceEqDiff, Nat.reduceLT, Nat.reduceSub, Nat.reduceAdd, Nat.reduceMul, implies_true, true_and, and_true, cond_true, cond_false]
          iterate 14 (first | (refine And.intro ?_ ?_; · first | omega | assumption | (simp; done) | (intros; simp_all; done) | decide) | skip)
          refine hK _ _ _ ?_
          clear hK K
          refine awp_cond (b := _) (by simp only [go_sem, List.map_cons, List.map_nil, ↓reduceIte, Nat.reduceEqDiff, Nat.reduceLT, Nat.reduceSub, Nat.reduceAdd, Nat.reduceMul, implies_true, true_and, and_true, cond_true, cond_false]; rfl) (fun hb => ?_) (fun hb => ?_)  -- t127
          · skip
            have hm : (squashE s a false 0 (partL l parts p l.length)).2 ≠ 0 := by simpa using hb
            have hq2 : minorsB s clock low l parts earlier = false := by rw [hq, mm_none (p := p) (by omega) (by rw [mmLeft, hleft, Option.bind_some, mmStep, hat, if_pos hm])]; rfl
            refine awp_reg zs [12] fun K hK => ?_  -- region 28
            try simp only [go_sem, List.map_cons, List.map_nil, ↓reduceIte, Nat.reduceEqDiff, Nat.reduceLT, Nat.reduceSub, Nat.reduceAdd, Nat.reduceMul, implies_true, true_and, and_true, cond_true, cond_false]
            iterate 14 (first | (refine And.intro ?_ ?_; · first | omega | assumption | (simp; done) | (intros; simp_all; done) | decide) | skip)
            refine hK _ _ _ ?_
            clear hK K
            refine awp_ret ?_
            try simp only [go_sem, List.map_cons, List.map_nil, ↓reduceIte, Nat.reduceEqDiff, Nat.reduceLT, Nat.reduceSub, Nat.reduceAdd, Nat.reduceMul, implies_true, true_and, and_true, cond_true, cond_false]
            refine ⟨_, rfl, fun k hk => ?_, Frz.eq ?_ trivial⟩
            · have h0 : k ≠ n := by omega
              first | exact hrest k hk | (simp [Heap.put, h0]; done) | (have h9 : k ≠ n1 := (by omega); simp only [Heap.put, h9, if_false]; exact hrest k hk)
            · first | (rw [hq2]; done) | (rw [hq]; done) | (rw [hq]; congr 1; rw [Bool.eq_iff_iff]; simp; done) | (rw [hq]; congr 1; rw [Bool.eq_iff_iff]; simp; omega) | trace_state
          · skip
            have hm : ¬ (squashE s a false 0 (partL l parts p l.length)).2 ≠ 0 := by simpa using hb
            refine awp_skip ?_
            try simp only [go_sem, List.map_cons, List.map_nil, ↓reduceIte, Nat.reduceEqDiff, Nat.reduceLT, Nat.reduceSub, Nat.reduceAdd, Nat.reduceMul, implies_true, true_and, and_true, cond_true, cond_false]
            refine hK12 _ _ _ ?_
            first | clear hK12 K12 | skip
            refine awp_reg zs [1, 2, 3, 4, 5, 6, 14, 17, 18, 22, 23, 129] fun K hK => ?_  -- region 29
            try simp only [go_sem, List.map_cons, List.map_nil, ↓reduceIte, Nat.reduceEqDiff, Nat.reduceLT, Nat.reduceSub, Nat.reduceAdd, Nat.reduceMul, implies_true, true_and, and_true, cond_true, cond_false]
            iterate 14 (first | (refine And.intro ?_ ?_; · first | omega | assumption | (simp; done) | (intros; simp_all; done) | decide) | skip)
            refine hK _ _ _ ?_
            clear hK K
            refine awp_cond (b := _) (by simp only [go_sem, List.map_cons, List.map_nil, ↓reduceIte, Nat.reduceEqDiff, Nat.reduceLT, Nat.reduceSub, Nat.reduceAdd, Nat.reduceMul, implies_true, true_and, and_true, cond_true, cond_false]; rfl) (fun hb => ?_) (fun hb => ?_)  -- t129
            · skip
              have hp2 : p = 2 := by simp at hb; omega
              refine awp_drw rfl zs [1, 2, 3, 4, 5, 6, 14, 17, 18, 24] [.q, .m, .m, .m, .c, .c, .m, .q, .q, .q, .q] (by kernel_rfl) (fun _ _ _ _ _ h => h) fun K hK => ?_  -- region 30
              try simp only [go_sem, List.map_cons, List.map_nil, ↓reduceIte, Nat.reduceEqDiff, Nat.reduceLT, Nat.reduceSub, Nat.reduceAdd, Nat.reduceMul, implies_true, true_and, and_true, cond_true, cond_false, hsc, q1, q2]
              iterate 14 (first | (refine And.intro ?_ ?_; · first | omega | assumption | (simp; done) | (intros; simp_all; done) | decide) | skip)
              refine callQG_use Try.func14 rfl rfl rfl (fun _ n => (c_law_join left (squashE s a false 0 (partL l parts p l.length)).1 (by omega) (by omega) hlb.2 hmf _ _)) ?_
              try simp only [go_sem, List.map_cons, List.map_nil, ↓reduceIte, Nat.reduceEqDiff, Nat.reduceLT, Nat.reduceSub, Nat.reduceAdd, Nat.reduceMul, implies_true, true_and, and_true, cond_true, cond_false, hsc, q1, q2]
              iterate 14 (first | (refine And.intro ?_ ?_; · first | omega | assumption | (simp; done) | (intros; simp_all; done) | decide) | skip)
              refine callQG_use Try.func15 rfl rfl rfl (fun _ n => (c_retain_Squash s a 0 false (left ++ (squashE s a false 0 (partL l parts p l.length)).1) (by rw [List.length_append]; omega) _ _)) ?_
              try simp only [go_sem, List.map_cons, List.map_nil, ↓reduceIte, Nat.reduceEqDiff, Nat.reduceLT, Nat.reduceSub, Nat.reduceAdd, Nat.reduceMul, implies_true, true_and, and_true, cond_true, cond_false, hsc, q1, q2]
              iterate 14 (first | (refine And.intro ?_ ?_; · first | omega | assumption | (simp; done) | (intros; simp_all; done) | decide) | skip)
              refine hK _ _ _ ?_
              clear hK K
              refine awp_reg zs [1, 2, 3, 4, 5, 6, 14, 17, 18, 141] fun K hK => ?_  -- region 31
              try simp only [go_sem, List.map_cons, List.map_nil, ↓reduceIte, Nat.reduceEqDiff, Nat.reduceLT, Nat.reduceSub, Nat.reduceAdd, Nat.reduceMul, implies_true, true_and, and_true, cond_true, cond_false]
              iterate 14 (first | (refine And.intro ?_ ?_; · first | omega | assumption | (simp; done) | (intros; simp_all; done) | decide) | skip)
              refine callK_use Try.func16 rfl rfl rfl ((by apply c_law_num <;> first | assumption | omega)) ?_
              try simp only [go_sem, List.map_cons, List.map_nil, ↓reduceIte, Nat.reduceEqDiff, Nat.reduceLT, Nat.reduceSub, Nat.reduceAdd, Nat.reduceMul, implies_true, true_and, and_true, cond_true, cond_false]
              iterate 14 (first | (refine And.intro ?_ ?_; · first | omega | assumption | (simp; done) | (intros; simp_all; done) | decide) | skip)
              refine hK _ _ _ ?_
              clear hK K
              refine awp_cond (b := _) (by simp only [go_sem, List.map_cons, List.map_nil, ↓reduceIte, Nat.reduceEqDiff, Nat.reduceLT, Nat.reduceSub, Nat.reduceAdd, Nat.reduceMul, implies_true, true_and, and_true, cond_true, cond_false]; rfl) (fun hb => ?_) (fun hb => ?_)  -- t141
              · skip
                have hm2 : (squashE s a false 0 (left ++ (squashE s a false 0 (partL l parts p l.length)).1)).2 ≠ 0 := by simpa using hb
                have hq2 : minorsB s clock low l parts earlier = false := by rw [hq, mm_none (p := p) (by omega) (by rw [mmLeft, hleft, Option.bind_some, mmStep, hat, if_neg hm, if_pos hp2, if_pos hm2])]; rfl
                refine awp_reg zs [12] fun K hK => ?_  -- region 32
                try simp only [go_sem, List.map_cons, List.map_nil, ↓reduceIte, Nat.reduceEqDiff, Nat.reduceLT, Nat.reduceSub, Nat.reduceAdd, Nat.reduceMul, implies_true, true_and, and_true, cond_true, cond_false]
                iterate 14 (first | (refine And.intro ?_ ?_; · first | omega | assumption | (simp; done) | (intros; simp_all; done) | decide) | skip)
                refine hK _ _ _ ?_
                clear hK K
                refine awp_ret ?_
                try simp only [go_sem, List.map_cons, List.map_nil, ↓reduceIte, Nat.reduceEqDiff, Nat.reduceLT, Nat.reduceSub, Nat.reduceAdd, Nat.reduceMul, implies_true, true_and, and_true, cond_true, cond_false]
                refine ⟨_, rfl, fun k hk => ?_, Frz.eq ?_ trivial⟩
                · have h0 : k ≠ n := by omega
                  first | exact hrest k hk | (simp [Heap.put, h0]; done) | (have h9 : k ≠ n1 := (by omega); simp only [Heap.put, h9, if_false]; exact hrest k hk)
                · first | (rw [hq2]; done) | (rw [hq]; done) | (rw [hq]; congr 1; rw [Bool.eq_iff_iff]; simp; done) | (rw [hq]; congr 1; rw [Bool.eq_iff_iff]; simp; omega) | trace_state
              · skip
                have hm2 : ¬ (squashE s a false 0 (left ++ (squashE s a false 0 (partL l parts p l.length)).1)).2 ≠ 0 := by simpa using hb
                have hnx : mmLeft s clock l parts earlier (p + 1) = some (squashE s a false 0 (left ++ (squashE s a false 0 (partL l parts p l.length)).1)).1 := by rw [mmLeft, hleft, Option.bind_some, mmStep, hat, if_neg hm, if_pos hp2, if_neg hm2]
                refine awp_skip ?_
                try simp only [go_sem, List.map_cons, List.map_nil, ↓reduceIte, Nat.reduceEqDiff, Nat.reduceLT, Nat.reduceSub, Nat.reduceAdd, Nat.reduceMul, implies_true, true_and, and_true, cond_true, cond_false]
                refine hK7 _ _ _ ?_
                first | clear hK7 K7 | skip
                refine awp_reg1 zs [1, 2, 3, 4, 5, 6, 14, 17, 18] fun K hK => ?_  -- region 13
                try simp only [go_sem, List.map_cons, List.map_nil, ↓reduceIte, Nat.reduceEqDiff, Nat.reduceLT, Nat.reduceSub, Nat.reduceAdd, Nat.reduceMul, implies_true, true_and, and_true, cond_true, cond_false]
                iterate 14 (first | (refine And.intro ?_ ?_; · first | omega | assumption | (simp; done) | (intros; simp_all; done) | decide) | skip)
                refine hK _ _ _ ?_
                clear hK K
                try simp only [go_sem, List.map_cons, List.map_nil, ↓reduceIte, Nat.reduceEqDiff, Nat.reduceLT, Nat.reduceSub, Nat.reduceAdd, Nat.reduceMul, implies_true, true_and, and_true, cond_true, cond_false]
                refine ⟨⟨p + 1, _, by omega, hnx, by rw [w1 (by omega)], by omega, ?_, fun k hk => ?_⟩, by rw [w1 (by omega)]; simp; omega⟩
                · simp [Heap.put, q1, q2, hsc, schAV]
                · have h9 : k ≠ n1 := by omega
                  simp only [Heap.put, h9, if_false]; exact hrest k hk
            · skip
              have hp2 : p ≠ 2 := by simp at hb; omega
              have hnx : mmLeft s clock l parts earlier (p + 1) = some (left ++ (squashE s a false 0 (partL l parts p l.length)).1) := by rw [mmLeft, hleft, Option.bind_some, mmStep, hat, if_neg hm, if_neg hp2]
              refine awp_reg1 zs [1, 2, 3, 4, 5, 6, 14, 17, 18] fun K hK => ?_  -- region 33
              try simp only [go_sem, List.map_cons, List.map_nil, ↓reduceIte, Nat.reduceEqDiff, Nat.reduceLT, Nat.reduceSub, Nat.reduceAdd, Nat.reduceMul, implies_true, true_and, and_true, cond_true, cond_false]
              iterate 14 (first | (refine And.intro ?_ ?_; · first | omega | assumption | (simp; done) | (intros; simp_all; done) | decide) | skip)
              refine callK_use Try.func14 rfl rfl rfl ((c_law_join left (squashE s a false 0 (partL l parts p l.length)).1 (by omega) (by omega) hlb.2 hmf _ _)) ?_
              try simp only [go_sem, List.map_cons, List.map_nil, ↓reduceIte, Nat.reduceEqDiff, Nat.reduceLT, Nat.reduceSub, Nat.reduceAdd, Nat.reduceMul, implies_true, true_and, and_true, cond_true, cond_false]
              iterate 14 (first | (refine And.intro ?_ ?_; · first | omega | assumption | (simp; done) | (intros; simp_all; done) | decide) | skip)
              refine hK _ _ _ ?_
              clear hK K
              try simp only [go_sem, List.map_cons, List.map_nil, ↓reduceIte, Nat.reduceEqDiff, Nat.reduceLT, Nat.reduceSub, Nat.reduceAdd, Nat.reduceMul, implies_true, true_and, and_true, cond_true, cond_false]
              refine hK7 _ _ _ ?_
              first | clear hK7 K7 | skip
              refine awp_reg1 zs [1, 2, 3, 4, 5, 6, 14, 17, 18] fun K hK => ?_  -- region 13
              try simp only [go_sem, List.map_cons, List.map_nil, ↓reduceIte, Nat.reduceEqDiff, Nat.reduceLT, Nat.reduceSub, Nat.reduceAdd, Nat.reduceMul, implies_true, true_and, and_true, cond_true, cond_false]
              iterate 14 (first | (refine And.intro ?_ ?_; · first | omega | assumption | (simp; done) | (intros; simp_all; done) | decide) | skip)
              refine hK _ _ _ ?_
              clear hK K
              try simp only [go_sem, List.map_cons, List.map_nil, ↓reduceIte, Nat.reduceEqDiff, Nat.reduceLT, Nat.reduceSub, Nat.reduceAdd, Nat.reduceMul, implies_true, true_and, and_true, cond_true, cond_false]
              refine ⟨⟨p + 1, _, by omega, hnx, by rw [w1 (by omega)], by omega, ?_, fun k hk => ?_⟩, by rw [w1 (by omega)]; simp; omega⟩
              · simp [Heap.put, q1, q2, hsc, schAV]
              · have h9 : k ≠ n1 := by omega
                simp only [Heap.put, h9, if_false]; exact hrest k hk
      · skip
        have hp4 : p = 4 := by simp at hb; omega
        subst hp4
        have hlb := hok 4 left hleft
        have hlb2 := mmBnd_le (p := 4) (by omega)
        have hq2 : minorsB s clock low l parts earlier = bif (squashE s clock true low left).2 == 0 then decide ((squashE s clock true low left).1 = (squashE s clock true low l).1) else false := by rw [hq, hleft]; rfl
        have hms := squashE_length s clock true low left
        refine awp_exit ?_
        try simp only [go_sem, List.map_cons, List.map_nil, ↓reduceIte, Nat.reduceEqDiff, Nat.reduceLT, Nat.reduceSub, Nat.reduceAdd, Nat.reduceMul, implies_true, true_and, and_true, cond_true, cond_false]
        refine hK5 _ _ _ ?_
        first | clear hK5 K5 | skip
        refine awp_reg zs [14, 25, 26] fun K hK => ?_  -- region 34
        try simp only [go_sem, List.map_cons, List.map_nil, ↓reduceIte, Nat.reduceEqDiff, Nat.reduceLT, Nat.reduceSub, Nat.reduceAdd, Nat.reduceMul, implies_true, true_and, and_true, cond_true, cond_false, hsc]
        iterate 14 (first | (refine And.intro ?_ ?_; · first | omega | assumption | (simp; done) | (intros; simp_all; done) | decide) | skip)
        refine callK_use Try.func15 rfl rfl rfl ((c_retain_Squash s clock low true left (by omega) _ _)) ?_
        try simp only [go_sem, List.map_cons, List.map_nil, ↓reduceIte, Nat.reduceEqDiff, Nat.reduceLT, Nat.reduceSub, Nat.reduceAdd, Nat.reduceMul, implies_true, true_and, and_true, cond_true, cond_false, hsc]
        iterate 14 (first | (refine And.intro ?_ ?_; · first | omega | assumption | (simp; done) | (intros; simp_all; done) | decide) | skip)
        refine hK _ _ _ ?_
        clear hK K
        refine awp_reg zs [12] fun K hK => ?_  -- region 35
        try simp only [go_sem, List.map_cons, List.map_nil, ↓reduceIte, Nat.reduceEqDiff, Nat.reduceLT, Nat.reduceSub, Nat.reduceAdd, Nat.reduceMul, implies_true, true_and, and_true, cond_true, cond_false]
        iterate 14 (first | (refine And.intro ?_ ?_; · first | omega | assumption | (simp; done) | (intros; simp_all; done) | decide) | skip)
        refine callK_use Try.func16 rfl rfl rfl ((by apply c_law_num <;> first | assumption | omega)) ?_
        try simp only [go_sem, List.map_cons, List.map_nil, ↓reduceIte, Nat.reduceEqDiff, Nat.reduceLT, Nat.reduceSub, Nat.reduceAdd, Nat.reduceMul, implies_true, true_and, and_true, cond_true, cond_false]
        iterate 14 (first | (refine And.intro ?_ ?_; · first | omega | assumption | (simp; done) | (intros; simp_all; done) | decide) | skip)
        refine callG_use Try.func18 rfl rfl rfl (fun _ => (c_ref3_SameAll (squashE s clock true low left).1 (squashE s clock true low l).1 (by omega) _ _)) ?_
        try simp only [go_sem, List.map_cons, List.map_nil, ↓reduceIte, Nat.reduceEqDiff, Nat.reduceLT, Nat.reduceSub, Nat.reduceAdd, Nat.reduceMul, implies_true, true_and, and_true, cond_true, cond_false]
        iterate 14 (first | (refine And.intro ?_ ?_; · first | omega | assumption | (simp; done) | (intros; simp_all; done) | decide) | skip)
        refine hK _ _ _ ?_
        clear hK K
        refine awp_ret ?_
        try simp only [go_sem, List.map_cons, List.map_nil, ↓reduceIte, Nat.reduceEqDiff, Nat.reduceLT, Nat.reduceSub, Nat.reduceAdd, Nat.reduceMul, implies_true, true_and, and_true, cond_true, cond_false]
        refine ⟨_, rfl, fun k hk => ?_, Frz.eq ?_ trivial⟩
        · have h0 : k ≠ n := by omega
          first | exact hrest k hk | (simp [Heap.put, h0]; done) | (have h9 : k ≠ n1 := (by omega); simp only [Heap.put, h9, if_false]; exact hrest k hk)
        · first | (rw [hq2]; done) | (rw [hq]; done) | (rw [hq]; congr 1; rw [Bool.eq_iff_iff]; simp; done) | (rw [hq]; congr 1; rw [Bool.eq_iff_iff]; simp; omega) | trace_state


end Go.Proofs.Ytijhkfhflpmajaa
namespace Go.Proofs.Ytijhkfhflpmajaa
open Go Go.Sx Go.Rt Go.Proofs

def sibX (e x : Ent) : Bool := bif (bif (bif (bif decide (x.kind ≤ 2) then decide (e.kind ≤ 2) else false) then x.fam == e.fam else false) then x.row == e.row else false) then x.qual == e.qual else false
def sibs (m : List Ent) (e : Ent) : Nat := (m.filter (sibX e)).length
def okX (low : Int) (v : List Ent) (e : Ent) : Bool := if e.kind = 1 then shownB v e else if e.kind = 2 then decide (e.value.length = 0) else if e.kind = 3 then false else decide (low < e.ts)
def famX (s : List Fml) (e : Ent) : Bool := bif decide (e.fam < 0) then true else decide ((s.length : Int) ≤ e.fam)
def badX (s : List Fml) (low : Int) (m v : List Ent) (e : Ent) : Bool :=
  famX s e || (bif !okX low v e then true else bif decide (e.kind ≤ 2) then decide ((famAt s e.fam).max < (sibs m e : Int)) else false)
def putsOf (m : List Ent) : Nat := (m.filter fun e => e.kind == 1).length
def collectsB (s : List Fml) (clock low : Int) (l : List Ent) : Bool :=
  bif (squashE s clock true low l).2 != 0 then decide ((squashE s clock true low l).1.length = 0)
  else bif (visE s clock l).2 != 0 then false
  else bif (squashE s clock true low l).1.any (badX s low (squashE s clock true low l).1 (visE s clock l).1) then false
  else decide (putsOf (squashE s clock true low l).1 = (visE s clock l).1.length)

theorem filt_cons {f : Ent → Bool} (x : Ent) (l : List Ent) : ((x :: l).filter f).length = (if f x = true then 1 else 0) + (l.filter f).length := by
  rw [List.filter_cons]; split <;> simp <;> omega

set_option maxRecDepth 100000 in
set_option maxHeartbeats 6400000 in
theorem c_law_RetainCollects (s : List Fml) (clock low : Int) (l : List Ent) (hl : l.length ≤ 10000000) (hv : (visE s clock l).1.length < 4611686018427387904) (H : Heap) (n : Nat) :
    Ret Try.prog 7 [schAV s, .int .i64 clock, .int .i64 low, entsAV l] H n (.bool (collectsB s clock low l)) H n := by
  have hsl := squashE_length s clock true low l
  refine Ret.fin ?_
  refine acalls_of_awp Try.func7 rfl Try.ntmps7 (congrArg Array.toList Try.results7) (by simp) ?_
  simp only [go_sem]
  refine awp_reg zs [1, 2, 3, 4] fun K hK => ?_  -- region 0
  try simp only [go_sem, List.map_cons, List.map_nil, ↓reduceIte, Nat.reduceEqDiff, Nat.reduceLT, Nat.reduceSub, Nat.reduceAdd, Nat.reduceMul, implies_true, true_and, and_true, cond_true, cond_false]
  iterate 14 (first | (refine And.intro ?_ ?_; · first | omega | assumption | (simp; done) | (intros; simp_all; done) | decide) | skip)
  refine hK _ _ _ ?_
  clear hK K
  refine awp_reg zs [1, 2, 3, 4, 9] fun K hK => ?_  -- region 1
  try simp only [go_sem, List.map_cons, List.map_nil, ↓reduceIte, Nat.reduceEqDiff, Nat.reduceLT, Nat.reduceSub, Nat.reduceAdd, Nat.reduceMul, implies_true, true_and, and_true, cond_true, cond_false]
  iterate 14 (first | (refine And.intro ?_ ?_; · first | omega | assumption | (simp; done) | (intros; simp_all; done) | decide) | skip)
  refine callK_use Try.func11 rfl rfl rfl ((c_law_started _ _)) ?_
  try simp only [go_sem, List.map_cons, List.map_nil, ↓reduceIte, Nat.reduceEqDiff, Nat.reduceLT, Nat.reduceSub, Nat.reduceAdd, Nat.reduceMul, implies_true, true_and, and_true, cond_true, cond_false]
  iterate 14 (first | (refine And.intro ?_ ?_; · first | omega | assumption | (simp; done) | (intros; simp_all; done) | decide) | skip)
  refine hK _ _ _ ?_
  clear hK K
  refine awp_reg zs [1, 2, 3, 4, 9, 10, 11] fun K hK => ?_  -- region 2
  try simp only [go_sem, List.map_cons, List.map_nil, ↓reduceIte, Nat.reduceEqDiff, Nat.reduceLT, Nat.reduceSub, Nat.reduceAdd, Nat.reduceMul, implies_true, true_and, and_true, cond_true, cond_false]
  iterate 14 (first | (refine And.intro ?_ ?_; · first | omega | assumption | (simp; done) | (intros; simp_all; done) | decide) | skip)
  refine callK_use Try.func15 rfl rfl rfl ((c_retain_Squash s clock low true l (by omega) _ _)) ?_
  try simp only [go_sem, List.map_cons, List.map_nil, ↓reduceIte, Nat.reduceEqDiff, Nat.reduceLT, Nat.reduceSub, Nat.reduceAdd, Nat.reduceMul, implies_true, true_and, and_true, cond_true, cond_false]
  iterate 14 (first | (refine And.intro ?_ ?_; · first | omega | assumption | (simp; done) | (intros; simp_all; done) | decide) | skip)
  refine hK _ _ _ ?_
  clear hK K
  refine awp_seq_k fun K1 hK1 => ?_
  refine awp_reg zs [1, 2, 3, 4, 9, 10, 33] fun K hK => ?_  -- region 3
  try simp only [go_sem, List.map_cons, List.map_nil, ↓reduceIte, Nat.reduceEqDiff, Nat.reduceLT, Nat.reduceSub, Nat.reduceAdd, Nat.reduceMul, implies_true, true_and, and_true, cond_true, cond_false]
  iterate 14 (first | (refine And.intro ?_ ?_; · first | omega | assumption | (simp; done) | (intros; simp_all; done) | decide) | skip)
  refine callG_use Try.func16 rfl rfl rfl (fun _ => (by apply c_law_num <;> first | assumption | omega)) ?_
  try simp only [go_sem, List.map_cons, List.map_nil, ↓reduceIte, Nat.reduceEqDiff, Nat.reduceLT, Nat.reduceSub, Nat.reduceAdd, Nat.reduceMul, implies_true, true_and, and_true, cond_true, cond_false]
  iterate 14 (first | (refine And.intro ?_ ?_; · first | omega | assumption | (simp; done) | (intros; simp_all; done) | decide) | skip)
  refine hK _ _ _ ?_
  clear hK K
  refine awp_cond (b := _) (by simp only [go_sem, List.map_cons, List.map_nil, ↓reduceIte, Nat.reduceEqDiff, Nat.reduceLT, Nat.reduceSub, Nat.reduceAdd, Nat.reduceMul, implies_true, true_and, and_true, cond_true, cond_false]; rfl) (fun hb => ?_) (fun hb => ?_)  -- t33
  · skip
    have h1 : ((squashE s clock true low l).2 != 0) = true := hb
    have hq : collectsB s clock low l = decide ((squashE s clock true low l).1.length = 0) := by unfold collectsB; rw [h1, cond_true]
    refine awp_reg zs [8] fun K hK => ?_  -- region 4
    try simp only [go_sem, List.map_cons, List.map_nil, ↓reduceIte, Nat.reduceEqDiff, Nat.reduceLT, Nat.reduceSub, Nat.reduceAdd, Nat.reduceMul, implies_true, true_and, and_true, cond_true, cond_false]
    iterate 14 (first | (refine And.intro ?_ ?_; · first | omega | assumption | (simp; done) | (intros; simp_all; done) | decide) | skip)
    refine hK _ _ _ ?_
    clear hK K
    refine awp_ret ?_
    try simp only [go_sem, List.map_cons, List.map_nil, ↓reduceIte, Nat.reduceEqDiff, Nat.reduceLT, Nat.reduceSub, Nat.reduceAdd, Nat.reduceMul, implies_true, true_and, and_true, cond_true, cond_false]
    refine ⟨_, rfl, ?_, Frz.eq ?_ trivial⟩
    · intro k hk; have h0 : k ≠ n := by omega
      simp [Heap.put, h0]
    · rw [hq]; first | done | (congr 1; rw [Bool.eq_iff_iff]; simp; done) | (congr 1; rw [Bool.eq_iff_iff]; simp; omega)
  · skip
    have h1 : ((squashE s clock true low l).2 != 0) = false := hb
    refine awp_skip ?_
    try simp only [go_sem, List.map_cons, List.map_nil, ↓reduceIte, Nat.reduceEqDiff, Nat.reduceLT, Nat.reduceSub, Nat.reduceAdd, Nat.reduceMul, implies_true, true_and, and_true, cond_true, cond_false]
    refine hK1 _ _ _ ?_
    first | clear hK1 K1 | skip
    refine awp_reg zs [2, 4, 10, 12, 13] fun K hK => ?_  -- region 5
    try simp only [go_sem, List.map_cons, List.map_nil, ↓reduceIte, Nat.reduceEqDiff, Nat.reduceLT, Nat.reduceSub, Nat.reduceAdd, Nat.reduceMul, implies_true, true_and, and_true, cond_true, cond_false]
    iterate 14 (first | (refine And.intro ?_ ?_; · first | omega | assumption | (simp; done) | (intros; simp_all; done) | decide) | skip)
    refine callK_use Try.func19 rfl rfl rfl ((c_retain_Vis s clock l (by omega) _ _)) ?_
    try simp only [go_sem, List.map_cons, List.map_nil, ↓reduceIte, Nat.reduceEqDiff, Nat.reduceLT, Nat.reduceSub, Nat.reduceAdd, Nat.reduceMul, implies_true, true_and, and_true, cond_true, cond_false]
    iterate 14 (first | (refine And.intro ?_ ?_; · first | omega | assumption | (simp; done) | (intros; simp_all; done) | decide) | skip)
    refine hK _ _ _ ?_
    clear hK K
    refine awp_seq_k fun K2 hK2 => ?_
    refine awp_reg zs [2, 4, 10, 12, 49] fun K hK => ?_  -- region 6
    try simp only [go_sem, List.map_cons, List.map_nil, ↓reduceIte, Nat.reduceEqDiff, Nat.reduceLT, Nat.reduceSub, Nat.reduceAdd, Nat.reduceMul, implies_true, true_and, and_true, cond_true, cond_false]
    iterate 14 (first | (refine And.intro ?_ ?_; · first | omega | assumption | (simp; done) | (intros; simp_all; done) | decide) | skip)
    refine callK_use Try.func16 rfl rfl rfl ((by apply c_law_num <;> first | assumption | omega)) ?_
    try simp only [go_sem, List.map_cons, List.map_nil, ↓reduceIte, Nat.reduceEqDiff, Nat.reduceLT, Nat.reduceSub, Nat.reduceAdd, Nat.reduceMul, implies_true, true_and, and_true, cond_true, cond_false]
    iterate 14 (first | (refine And.intro ?_ ?_; · first | omega | assumption | (simp; done) | (intros; simp_all; done) | decide) | skip)
    refine hK _ _ _ ?_
    clear hK K
    refine awp_cond (b := _) (by simp only [go_sem, List.map_cons, List.map_nil, ↓reduceIte, Nat.reduceEqDiff, Nat.reduceLT, Nat.reduceSub, Nat.reduceAdd, Nat.reduceMul, implies_true, true_and, and_true, cond_true, cond_false]; rfl) (fun hb => ?_) (fun hb => ?_)  -- t49
    · skip
      have h2 : ((visE s clock l).2 != 0) = true := hb
      have hq : collectsB s clock low l = false := by unfold collectsB; rw [h1, h2, cond_true, cond_false]
      refine awp_reg zs [8] fun K hK => ?_  -- region 7
      try simp only [go_sem, List.map_cons, List.map_nil, ↓reduceIte, Nat.reduceEqDiff, Nat.reduceLT, Nat.reduceSub, Nat.reduceAdd, Nat.reduceMul, implies_true, true_and, and_true, cond_true, cond_false]
      iterate 14 (first | (refine And.intro ?_ ?_; · first | omega | assumption | (simp; done) | (intros; simp_all; done) | decide) | skip)
      refine hK _ _ _ ?_
      clear hK K
      refine awp_ret ?_
      try simp only [go_sem, List.map_cons, List.map_nil, ↓reduceIte, Nat.reduceEqDiff, Nat.reduceLT, Nat.reduceSub, Nat.reduceAdd, Nat.reduceMul, implies_true, true_and, and_true, cond_true, cond_false]
      refine ⟨_, rfl, ?_, Frz.eq ?_ trivial⟩
      · intro k hk; have h0 : k ≠ n := by omega
        simp [Heap.put, h0]
      · rw [hq]; first | done | (congr 1; rw [Bool.eq_iff_iff]; simp; done) | (congr 1; rw [Bool.eq_iff_iff]; simp; omega)
    · skip
      have h2 : ((visE s clock l).2 != 0) = false := hb
      have hq0 : collectsB s clock low l = bif (squashE s clock true low l).1.any (badX s low (squashE s clock true low l).1 (visE s clock l).1) then false else decide (putsOf (squashE s clock true low l).1 = (visE s clock l).1.length) := by unfold collectsB; rw [h1, h2, cond_false, cond_false]
      have hml : (squashE s clock true low l).1.length ≤ 100000000 := by omega
      generalize (squashE s clock true low l).1 = m at *
      generalize (visE s clock l).1 = v at *
      refine awp_skip ?_
      try simp only [go_sem, List.map_cons, List.map_nil, ↓reduceIte, Nat.reduceEqDiff, Nat.reduceLT, Nat.reduceSub, Nat.reduceAdd, Nat.reduceMul, implies_true, true_and, and_true, cond_true, cond_false]
      refine hK2 _ _ _ ?_
      first | clear hK2 K2 | skip
      refine awp_reg zs [2, 4, 10, 12, 14] fun K hK => ?_  -- region 8
      try simp only [go_sem, List.map_cons, List.map_nil, ↓reduceIte, Nat.reduceEqDiff, Nat.reduceLT, Nat.reduceSub, Nat.reduceAdd, Nat.reduceMul, implies_true, true_and, and_true, cond_true, cond_false]
      iterate 14 (first | (refine And.intro ?_ ?_; · first | omega | assumption | (simp; done) | (intros; simp_all; done) | decide) | skip)
      refine hK _ _ _ ?_
      clear hK K
      refine awp_seq_k fun K3 hK3 => ?_
      refine awp_reg zs [2, 4, 10, 12, 14, 15] fun K hK => ?_  -- region 9
      try simp only [go_sem, List.map_cons, List.map_nil, ↓reduceIte, Nat.reduceEqDiff, Nat.reduceLT, Nat.reduceSub, Nat.reduceAdd, Nat.reduceMul, implies_true, true_and, and_true, cond_true, cond_false]
      iterate 14 (first | (refine And.intro ?_ ?_; · first | omega | assumption | (simp; done) | (intros; simp_all; done) | decide) | skip)
      refine hK _ _ _ ?_
      clear hK K
      refine awp_block ?_
      -- loop 0: head [2, 4, 10, 12, 14, 15]
      refine awp_loop (fun T' H' n' => ∃ (i p : Nat), i ≤ m.length ∧ p ≤ i ∧ T' = tl [(2, .int .i64 low), (4, .loc n 0 0 0 []), (10, .sl 7 (m.map entAV)), (12, .sl 7 (v.map entAV)), (14, .int .i64 p), (15, .int .i64 i)] ∧ H' = H.put n (some (.arr 0 1 [schAV s])) ∧ n' = n + 1 ∧ (m.drop i).any (badX s low m v) = m.any (badX s low m v) ∧ p + putsOf (m.drop i) = putsOf m) (fun T' _ _ => m.length - iv (T' 15)) ?_ ?_
      · skip
        exact ⟨0, 0, Nat.zero_le _, Nat.zero_le _, rfl, rfl, rfl, rfl, by simp⟩
      intro T1 H1 n1
      rintro ⟨i, p, hi, hp, rfl, rfl, rfl, hd, hpu⟩
      refine awp_seq_k fun K4 hK4 => ?_
      refine awp_reg zs [2, 4, 10, 12, 14, 15, 53] fun K hK => ?_  -- region 10
      try simp only [go_sem, List.map_cons, List.map_nil, ↓reduceIte, Nat.reduceEqDiff, Nat.reduceLT, Nat.reduceSub, Nat.reduceAdd, Nat.reduceMul, implies_true, true_and, and_true, cond_true, cond_false]
      iterate 14 (first | (refine And.intro ?_ ?_; · first | omega | assumption | (simp; done) | (intros; simp_all; done) | decide) | skip)
      refine hK _ _ _ ?_
      clear hK K
      refine awp_cond (b := _) (by simp only [go_sem, List.map_cons, List.map_nil, ↓reduceIte, Nat.reduceEqDiff, Nat.reduceLT, Nat.reduceSub, Nat.reduceAdd, Nat.reduceMul, implies_true, true_and, and_true, cond_true, cond_false]; rfl) (fun hb => ?_) (fun hb => ?_)  -- t53
      · skip
        have hlt : i < m.length := by simpa using hb
        have hn1 : nth (m.map entAV) i = entAV (m.getD i default) := nth_map entAV m i hlt
        rw [drop_cons m i hlt, List.any_cons] at hd
        rw [drop_cons m i hlt, putsOf, filt_cons] at hpu
        generalize m.getD i default = e at *
        refine awp_skip ?_
        try simp only [go_sem, List.map_cons, List.map_nil, ↓reduceIte, Nat.reduceEqDiff, Nat.reduceLT, Nat.reduceSub, Nat.reduceAdd, Nat.reduceMul, implies_true, true_and, and_true, cond_true, cond_false]
        refine hK4 _ _ _ ?_
        first | clear hK4 K4 | skip
        refine awp_seq_k fun K5 hK5 => ?_
        refine awp_block ?_
        refine awp_reg zs [2, 4, 10, 12, 14, 15, 16] fun K hK => ?_  -- region 12
        try simp only [go_sem, List.map_cons, List.map_nil, ↓reduceIte, Nat.reduceEqDiff, Nat.reduceLT, Nat.reduceSub, Nat.reduceAdd, Nat.reduceMul, implies_true, true_and, and_true, cond_true, cond_false]
        iterate 14 (first | (refine And.intro ?_ ?_; · first | omega | assumption | (simp; done) | (intros; simp_all; done) | decide) | skip)
        refine hK _ _ _ ?_
        clear hK K
        refine awp_seq_k fun K6 hK6 => ?_
        refine awp_drw rfl zs [2, 4, 10, 12, 14, 15, 16, 72] [.m, .m, .q, .q, .q, .q, .m, .m, .m, .q, .q, .q, .q, .q, .q, .q, .q] (by kernel_rfl) (fun _ _ _ _ _ h => h) fun K hK => ?_  -- region 13
        try simp only [go_sem, List.map_cons, List.map_nil, ↓reduceIte, Nat.reduceEqDiff, Nat.reduceLT, Nat.reduceSub, Nat.reduceAdd, Nat.reduceMul, implies_true, true_and, and_true, cond_true, cond_false, Int.toNat_natCast, hn1]
        iterate 14 (first | (refine And.intro ?_ ?_; · first | omega | assumption | (simp; done) | (intros; simp_all; done) | decide) | skip)
        refine hK _ _ _ ?_
        clear hK K
        refine awp_cond (b := _) (by simp only [go_sem, List.map_cons, List.map_nil, ↓reduceIte, Nat.reduceEqDiff, Nat.reduceLT, Nat.reduceSub, Nat.reduceAdd, Nat.reduceMul, implies_true, true_and, and_true, cond_true, cond_false]; rfl) (fun hb => ?_) (fun hb => ?_)  -- t72
        · skip
          have hf : famX s e = true := by unfold famX; rw [List.length_map] at hb; exact hb
          have hq : collectsB s clock low l = false := by rw [hq0, ← hd]; unfold badX; rw [hf]; rfl
          refine awp_reg zs [8] fun K hK => ?_  -- region 14
          try simp only [go_sem, List.map_cons, List.map_nil, ↓reduceIte, Nat.reduceEqDiff, Nat.reduceLT, Nat.reduceSub, Nat.reduceAdd, Nat.reduceMul, implies_true, true_and, and_true, cond_true, cond_false]
          iterate 14 (first | (refine And.intro ?_ ?_; · first | omega | assumption | (simp; done) | (intros; simp_all; done) | decide) | skip)
          refine hK _ _ _ ?_
          clear hK K
          refine awp_ret ?_
          try simp only [go_sem, List.map_cons, List.map_nil, ↓reduceIte, Nat.reduceEqDiff, Nat.reduceLT, Nat.reduceSub, Nat.reduceAdd, Nat.reduceMul, implies_true, true_and, and_true, cond_true, cond_false]
          refine ⟨_, rfl, ?_, Frz.eq ?_ trivial⟩
          · intro k hk; have h0 : k ≠ n := by omega
            simp [Heap.put, h0]
          · rw [hq]; first | done | (congr 1; rw [Bool.eq_iff_iff]; simp; done) | (congr 1; rw [Bool.eq_iff_iff]; simp; omega)
        · skip
          have hf : famX s e = false := by unfold famX; rw [List.length_map] at hb; exact hb
          have hf0 : 0 ≤ e.fam ∧ e.fam < s.length := by unfold famX at hf; by_cases h9 : e.fam < 0 <;> simp [h9] at hf <;> omega
          refine awp_skip ?_
          try simp only [go_sem, List.map_cons, List.map_nil, ↓reduceIte, Nat.reduceEqDiff, Nat.reduceLT, Nat.reduceSub, Nat.reduceAdd, Nat.reduceMul, implies_true, true_and, and_true, cond_true, cond_false]
          refine hK6 _ _ _ ?_
          first | clear hK6 K6 | skip
          refine awp_seq_k fun K7 hK7 => ?_
          refine awp_reg zs [2, 4, 10, 12, 14, 15, 16, 17] fun K hK => ?_  -- region 15
          try simp only [go_sem, List.map_cons, List.map_nil, ↓reduceIte, Nat.reduceEqDiff, Nat.reduceLT, Nat.reduceSub, Nat.reduceAdd, Nat.reduceMul, implies_true, true_and, and_true, cond_true, cond_false]
          iterate 14 (first | (refine And.intro ?_ ?_; · first | omega | assumption | (simp; done) | (intros; simp_all; done) | decide) | skip)
          refine hK _ _ _ ?_
          clear hK K
          refine awp_block ?_
          -- loop 1: head [2, 4, 10, 12, 14, 15, 16, 17]
          refine awp_loop (fun T' H' n' => ∃ (j c : Nat), j ≤ m.length ∧ c ≤ j ∧ T' = tl [(2, .int .i64 low), (4, .loc n 0 0 0 []), (10, .sl 7 (m.map entAV)), (12, .sl 7 (v.map entAV)), (14, .int .i64 p), (15, .int .i64 i), (16, .int .i64 c), (17, .int .i64 j)] ∧ H' = H.put n (some (.arr 0 1 [schAV s])) ∧ n' = n + 1 ∧ c + ((m.drop j).filter (sibX e)).length = sibs m e) (fun T' _ _ => m.length - iv (T' 17)) ?_ ?_
          · skip
            exact ⟨0, 0, Nat.zero_le _, Nat.zero_le _, rfl, rfl, rfl, by simp [sibs]⟩
          intro T1 H1 n1
          rintro ⟨j, c, hj, hcj, rfl, rfl, rfl, hs⟩
          refine awp_seq_k fun K8 hK8 => ?_
          refine awp_reg zs [2, 4, 10, 12, 14, 15, 16, 17, 76] fun K hK => ?_  -- region 16
          try simp only [go_sem, List.map_cons, List.map_nil, ↓reduceIte, Nat.reduceEqDiff, Nat.reduceLT, Nat.reduceSub, Nat.reduceAdd, Nat.reduceMul, implies_true, true_and, and_true, cond_true, cond_false]
          iterate 14 (first | (refine And.intro ?_ ?_; · first | omega | assumption | (simp; done) | (intros; simp_all; done) | decide) | skip)
          refine hK _ _ _ ?_
          clear hK K
          refine awp_cond (b := _) (by simp only [go_sem, List.map_cons, List.map_nil, ↓reduceIte, Nat.reduceEqDiff, Nat.reduceLT, Nat.reduceSub, Nat.reduceAdd, Nat.reduceMul, implies_true, true_and, and_true, cond_true, cond_false]; rfl) (fun hb => ?_) (fun hb => ?_)  -- t76
          · skip
            have hlt2 : j < m.length := by simpa using hb
            have hn2 : nth (m.map entAV) j = entAV (m.getD j default) := nth_map entAV m j hlt2
            rw [drop_cons m j hlt2, filt_cons] at hs
            generalize m.getD j default = x at *
            refine awp_skip ?_
            try simp only [go_sem, List.map_cons, List.map_nil, ↓reduceIte, Nat.reduceEqDiff, Nat.reduceLT, Nat.reduceSub, Nat.reduceAdd, Nat.reduceMul, implies_true, true_and, and_true, cond_true, cond_false]
            refine hK8 _ _ _ ?_
            first | clear hK8 K8 | skip
            refine awp_seq_k fun K9 hK9 => ?_
            refine awp_block ?_
            refine awp_drw rfl zs [2, 4, 10, 12, 14, 15, 16, 17, 131] [.m, .m, .q, .q, .q, .q, .m, .m, .m, .q, .q, .q, .q, .q, .m, .m, .m, .q, .q, .q, .m, .m, .q, .q, .q, .q, .q, .m, .m, .m, .q, .q, .q, .m, .m, .q, .q, .q, .c, .q, .m, .m, .m, .q, .q, .q, .m, .m, .q, .q, .q, .c, .q] (by kernel_rfl) (fun _ _ _ _ _ h => h) fun K hK => ?_  -- region 18
            try simp only [go_sem, List.map_cons, List.map_nil, ↓reduceIte, Nat.reduceEqDiff, Nat.reduceLT, Nat.reduceSub, Nat.reduceAdd, Nat.reduceMul, implies_true, true_and, and_true, cond_true, cond_false, Int.toNat_natCast, hn1, hn2]
            iterate 14 (first | (refine And.intro ?_ ?_; · first | omega | assumption | (simp; done) | (intros; simp_all; done) | decide) | skip)
            refine callQG_use Try.func20 rfl rfl rfl (fun _ n => (c_ref3_Alike x.row e.row _ _)) ?_
            try simp only [go_sem, List.map_cons, List.map_nil, ↓reduceIte, Nat.reduceEqDiff, Nat.reduceLT, Nat.reduceSub, Nat.reduceAdd, Nat.reduceMul, implies_true, true_and, and_true, cond_true, cond_false, Int.toNat_natCast, hn1, hn2]
            iterate 14 (first | (refine And.intro ?_ ?_; · first | omega | assumption | (simp; done) | (intros; simp_all; done) | decide) | skip)
            refine callQG_use Try.func20 rfl rfl rfl (fun _ n => (c_ref3_Alike x.qual e.qual _ _)) ?_
            try simp only [go_sem, List.map_cons, List.map_nil, ↓reduceIte, Nat.reduceEqDiff, Nat.reduceLT, Nat.reduceSub, Nat.reduceAdd, Nat.reduceMul, implies_true, true_and, and_true, cond_true, cond_false, Int.toNat_natCast, hn1, hn2]
            iterate 14 (first | (refine And.intro ?_ ?_; · first | omega | assumption | (simp; done) | (intros; simp_all; done) | decide) | skip)
            refine hK _ _ _ ?_
            clear hK K
            refine awp_cond (b := _) (by simp only [go_sem, List.map_cons, List.map_nil, ↓reduceIte, Nat.reduceEqDiff, Nat.reduceLT, Nat.reduceSub, Nat.reduceAdd, Nat.reduceMul, implies_true, true_and, and_true, cond_true, cond_false]; rfl) (fun hb => ?_) (fun hb => ?_)  -- t131
            · skip
              have hx : sibX e x = true := hb
              rw [if_pos hx] at hs
              have hw1 : IntKind.i64.wrap ((c : Int) + 1) = ((c + 1 : Nat) : Int) := Rt.w1 (by omega)
              refine awp_reg1 zs [2, 4, 10, 12, 14, 15, 16, 17] fun K hK => ?_  -- region 19
              try simp only [go_sem, List.map_cons, List.map_nil, ↓reduceIte, Nat.reduceEqDiff, Nat.reduceLT, Nat.reduceSub, Nat.reduceAdd, Nat.reduceMul, implies_true, true_and, and_true, cond_true, cond_false, hw1]
              iterate 14 (first | (refine And.intro ?_ ?_; · first | omega | assumption | (simp; done) | (intros; simp_all; done) | decide) | skip)
              refine hK _ _ _ ?_
              clear hK K
              try simp only [go_sem, List.map_cons, List.map_nil, ↓reduceIte, Nat.reduceEqDiff, Nat.reduceLT, Nat.reduceSub, Nat.reduceAdd, Nat.reduceMul, implies_true, true_and, and_true, cond_true, cond_false]
              refine hK9 _ _ _ ?_
              first | clear hK9 K9 | skip
              refine awp_reg1 zs [2, 4, 10, 12, 14, 15, 16, 17] fun K hK => ?_  -- region 17
              try simp only [go_sem, List.map_cons, List.map_nil, ↓reduceIte, Nat.reduceEqDiff, Nat.reduceLT, Nat.reduceSub, Nat.reduceAdd, Nat.reduceMul, implies_true, true_and, and_true, cond_true, cond_false]
              iterate 14 (first | (refine And.intro ?_ ?_; · first | omega | assumption | (simp; done) | (intros; simp_all; done) | decide) | skip)
              refine hK _ _ _ ?_
              clear hK K
              try simp only [go_sem, List.map_cons, List.map_nil, ↓reduceIte, Nat.reduceEqDiff, Nat.reduceLT, Nat.reduceSub, Nat.reduceAdd, Nat.reduceMul, implies_true, true_and, and_true, cond_true, cond_false]
              first
              | exact ⟨⟨j + 1, c + 1, by omega, by omega, by rw [Rt.w1 (by omega)], by omega⟩, by rw [Rt.w1 (by omega)]; simp; omega⟩
              | exact ⟨⟨j + 1, c, by omega, by omega, by rw [Rt.w1 (by omega)], by omega⟩, by rw [Rt.w1 (by omega)]; simp; omega⟩
            · skip
              have hx : sibX e x = false := hb
              rw [if_neg (by rw [hx]; decide)] at hs
              refine awp_skip ?_
              try simp only [go_sem, List.map_cons, List.map_nil, ↓reduceIte, Nat.reduceEqDiff, Nat.reduceLT, Nat.reduceSub, Nat.reduceAdd, Nat.reduceMul, implies_true, true_and, and_true, cond_true, cond_false]
              refine hK9 _ _ _ ?_
              first | clear hK9 K9 | skip
              refine awp_reg1 zs [2, 4, 10, 12, 14, 15, 16, 17] fun K hK => ?_  -- region 17
              try simp only [go_sem, List.map_cons, List.map_nil, ↓reduceIte, Nat.reduceEqDiff, Nat.reduceLT, Nat.reduceSub, Nat.reduceAdd, Nat.reduceMul, implies_true, true_and, and_true, cond_true, cond_false]
              iterate 14 (first | (refine And.intro ?_ ?_; · first | omega | assumption | (simp; done) | (intros; simp_all; done) | decide) | skip)
              refine hK _ _ _ ?_
              clear hK K
              try simp only [go_sem, List.map_cons, List.map_nil, ↓reduceIte, Nat.reduceEqDiff, Nat.reduceLT, Nat.reduceSub, Nat.reduceAdd, Nat.reduceMul, implies_true, true_and, and_true, cond_true, cond_false]
              first
              | exact ⟨⟨j + 1, c + 1, by omega, by omega, by rw [Rt.w1 (by omega)], by omega⟩, by rw [Rt.w1 (by omega)]; simp; omega⟩
              | exact ⟨⟨j + 1, c, by omega, by omega, by rw [Rt.w1 (by omega)], by omega⟩, by rw [Rt.w1 (by omega)]; simp; omega⟩
          · skip
            have hge2 : j = m.length := by simp at hb; omega
            rw [hge2, List.drop_length] at hs
            have hcs : c = sibs m e := by simpa using hs
            refine awp_exit ?_
            try simp only [go_sem, List.map_cons, List.map_nil, ↓reduceIte, Nat.reduceEqDiff, Nat.reduceLT, Nat.reduceSub, Nat.reduceAdd, Nat.reduceMul, implies_true, true_and, and_true, cond_true, cond_false]
            refine hK7 _ _ _ ?_
            first | clear hK7 K7 | skip
            refine awp_seq_j (fun T' H' n' => T' 2 = .int .i64 low ∧ T' 4 = .loc n 0 0 0 [] ∧ T' 9 = .bool (okX low v e) ∧ T' 10 = .sl 7 (m.map entAV) ∧ T' 12 = .sl 7 (v.map entAV) ∧ T' 14 = .int .i64 (p + (if e.kind = 1 then 1 else 0) : Nat) ∧ T' 15 = .int .i64 i ∧ T' 16 = .int .i64 c ∧ H' = H.put n (some (.arr 0 1 [schAV s])) ∧ n' = n + 1) ?_ ?_
            · skip
              refine awp_reg zs [2, 4, 10, 12, 14, 15, 16, 138] fun K hK => ?_  -- region 20
              try simp only [go_sem, List.map_cons, List.map_nil, ↓reduceIte, Nat.reduceEqDiff, Nat.reduceLT, Nat.reduceSub, Nat.reduceAdd, Nat.reduceMul, implies_true, true_and, and_true, cond_true, cond_false, Int.toNat_natCast, hn1]
              iterate 14 (first | (refine And.intro ?_ ?_; · first | omega | assumption | (simp; done) | (intros; simp_all; done) | decide) | skip)
              refine hK _ _ _ ?_
              clear hK K
              refine awp_block ?_
              refine awp_reg zs [2, 4, 10, 12, 14, 15, 16, 138, 146] fun K hK => ?_  -- region 22
              try simp only [go_sem, List.map_cons, List.map_nil, ↓reduceIte, Nat.reduceEqDiff, Nat.reduceLT, Nat.reduceSub, Nat.reduceAdd, Nat.reduceMul, implies_true, true_and, and_true, cond_true, cond_false]
              iterate 14 (first | (refine And.intro ?_ ?_; · first | omega | assumption | (simp; done) | (intros; simp_all; done) | decide) | skip)
              refine hK _ _ _ ?_
              clear hK K
              refine awp_cond (b := _) (by simp only [go_sem, List.map_cons, List.map_nil, ↓reduceIte, Nat.reduceEqDiff, Nat.reduceLT, Nat.reduceSub, Nat.reduceAdd, Nat.reduceMul, implies_true, true_and, and_true, cond_true, cond_false]; rfl) (fun hb => ?_) (fun hb => ?_)  -- t146
              · skip
                have k1 : e.kind = 1 := by simpa using hb
                have hwp : IntKind.i64.wrap ((p : Int) + 1) = ((p + 1 : Nat) : Int) := Rt.w1 (by omega)
                refine awp_reg zs [2, 4, 10, 12, 14, 15, 16] fun K hK => ?_  -- region 23
                try simp only [go_sem, List.map_cons, List.map_nil, ↓reduceIte, Nat.reduceEqDiff, Nat.reduceLT, Nat.reduceSub, Nat.reduceAdd, Nat.reduceMul, implies_true, true_and, and_true, cond_true, cond_false, hwp]
                iterate 14 (first | (refine And.intro ?_ ?_; · first | omega | assumption | (simp; done) | (intros; simp_all; done) | decide) | skip)
                refine hK _ _ _ ?_
                clear hK K
                refine awp_reg1 zs [2, 4, 9, 10, 12, 14, 15, 16] fun K hK => ?_  -- region 24
                try simp only [go_sem, List.map_cons, List.map_nil, ↓reduceIte, Nat.reduceEqDiff, Nat.reduceLT, Nat.reduceSub, Nat.reduceAdd, Nat.reduceMul, implies_true, true_and, and_true, cond_true, cond_false, Int.toNat_natCast, hn1]
                iterate 14 (first | (refine And.intro ?_ ?_; · first | omega | assumption | (simp; done) | (intros; simp_all; done) | decide) | skip)
                refine callK_use Try.func21 rfl rfl rfl ((c_law_shown v e hv _ _)) ?_
                try simp only [go_sem, List.map_cons, List.map_nil, ↓reduceIte, Nat.reduceEqDiff, Nat.reduceLT, Nat.reduceSub, Nat.reduceAdd, Nat.reduceMul, implies_true, true_and, and_true, cond_true, cond_false, Int.toNat_natCast, hn1]
                iterate 14 (first | (refine And.intro ?_ ?_; · first | omega | assumption | (simp; done) | (intros; simp_all; done) | decide) | skip)
                refine hK _ _ _ ?_
                clear hK K
                try simp only [go_sem, List.map_cons, List.map_nil, ↓reduceIte, Nat.reduceEqDiff, Nat.reduceLT, Nat.reduceSub, Nat.reduceAdd, Nat.reduceMul, implies_true, true_and, and_true, cond_true, cond_false]
                first
                | (simp [okX, k1, tl, schAV]; done)
                | (simp [okX, k1, k2, tl, schAV]; done)
                | (simp [okX, k1, k2, tl, schAV]; rw [Bool.eq_iff_iff]; simp; done)
                | (simp [okX, k1, k2, k3, tl, schAV]; done)
              · skip
                have k1 : e.kind ≠ 1 := by simpa using hb
                refine awp_reg zs [2, 4, 10, 12, 14, 15, 16, 138, 156] fun K hK => ?_  -- region 25
                try simp only [go_sem, List.map_cons, List.map_nil, ↓reduceIte, Nat.reduceEqDiff, Nat.reduceLT, Nat.reduceSub, Nat.reduceAdd, Nat.reduceMul, implies_true, true_and, and_true, cond_true, cond_false]
                iterate 14 (first | (refine And.intro ?_ ?_; · first | omega | assumption | (simp; done) | (intros; simp_all; done) | decide) | skip)
                refine hK _ _ _ ?_
                clear hK K
                refine awp_cond (b := _) (by simp only [go_sem, List.map_cons, List.map_nil, ↓reduceIte, Nat.reduceEqDiff, Nat.reduceLT, Nat.reduceSub, Nat.reduceAdd, Nat.reduceMul, implies_true, true_and, and_true, cond_true, cond_false]; rfl) (fun hb => ?_) (fun hb => ?_)  -- t156
                · skip
                  have k2 : e.kind = 2 := by simpa using hb
                  refine awp_reg1 zs [2, 4, 9, 10, 12, 14, 15, 16] fun K hK => ?_  -- region 26
                  try simp only [go_sem, List.map_cons, List.map_nil, ↓reduceIte, Nat.reduceEqDiff, Nat.reduceLT, Nat.reduceSub, Nat.reduceAdd, Nat.reduceMul, implies_true, true_and, and_true, cond_true, cond_false, Int.toNat_natCast, hn1]
                  iterate 14 (first | (refine And.intro ?_ ?_; · first | omega | assumption | (simp; done) | (intros; simp_all; done) | decide) | skip)
                  refine hK _ _ _ ?_
                  clear hK K
                  try simp only [go_sem, List.map_cons, List.map_nil, ↓reduceIte, Nat.reduceEqDiff, Nat.reduceLT, Nat.reduceSub, Nat.reduceAdd, Nat.reduceMul, implies_true, true_and, and_true, cond_true, cond_false]
                  first
                  | (simp [okX, k1, tl, schAV]; done)
                  | (simp [okX, k1, k2, tl, schAV]; done)
                  | (simp [okX, k1, k2, tl, schAV]; rw [Bool.eq_iff_iff]; simp; done)
                  | (simp [okX, k1, k2, k3, tl, schAV]; done)
                · skip
                  have k2 : e.kind ≠ 2 := by simpa using hb
                  refine awp_reg zs [2, 4, 10, 12, 14, 15, 16, 165] fun K hK => ?_  -- region 27
                  try simp only [go_sem, List.map_cons, List.map_nil, ↓reduceIte, Nat.reduceEqDiff, Nat.reduceLT, Nat.reduceSub, Nat.reduceAdd, Nat.reduceMul, implies_true, true_and, and_true, cond_true, cond_false]
                  iterate 14 (first | (refine And.intro ?_ ?_; · first | omega | assumption | (simp; done) | (intros; simp_all; done) | decide) | skip)
                  refine hK _ _ _ ?_
                  clear hK K
                  refine awp_cond (b := _) (by simp only [go_sem, List.map_cons, List.map_nil, ↓reduceIte, Nat.reduceEqDiff, Nat.reduceLT, Nat.reduceSub, Nat.reduceAdd, Nat.reduceMul, implies_true, true_and, and_true, cond_true, cond_false]; rfl) (fun hb => ?_) (fun hb => ?_)  -- t165
                  · skip
                    have k3 : e.kind = 3 := by simpa using hb
                    refine awp_reg1 zs [2, 4, 9, 10, 12, 14, 15, 16] fun K hK => ?_  -- region 28
                    try simp only [go_sem, List.map_cons, List.map_nil, ↓reduceIte, Nat.reduceEqDiff, Nat.reduceLT, Nat.reduceSub, Nat.reduceAdd, Nat.reduceMul, implies_true, true_and, and_true, cond_true, cond_false]
                    iterate 14 (first | (refine And.intro ?_ ?_; · first | omega | assumption | (simp; done) | (intros; simp_all; done) | decide) | skip)
                    refine hK _ _ _ ?_
                    clear hK K
                    try simp only [go_sem, List.map_cons, List.map_nil, ↓reduceIte, Nat.reduceEqDiff, Nat.reduceLT, Nat.reduceSub, Nat.reduceAdd, Nat.reduceMul, implies_true, true_and, and_true, cond_true, cond_false]
                    first
                    | (simp [okX, k1, tl, schAV]; done)
                    | (simp [okX, k1, k2, tl, schAV]; done)
                    | (simp [okX, k1, k2, tl, schAV]; rw [Bool.eq_iff_iff]; simp; done)
                    | (simp [okX, k1, k2, k3, tl, schAV]; done)
                  · skip
                    have k3 : e.kind ≠ 3 := by simpa using hb
                    refine awp_reg1 zs [2, 4, 9, 10, 12, 14, 15, 16] fun K hK => ?_  -- region 21
                    try simp only [go_sem, List.map_cons, List.map_nil, ↓reduceIte, Nat.reduceEqDiff, Nat.reduceLT, Nat.reduceSub, Nat.reduceAdd, Nat.reduceMul, implies_true, true_and, and_true, cond_true, cond_false, Int.toNat_natCast, hn1]
                    iterate 14 (first | (refine And.intro ?_ ?_; · first | omega | assumption | (simp; done) | (intros; simp_all; done) | decide) | skip)
                    refine hK _ _ _ ?_
                    clear hK K
                    try simp only [go_sem, List.map_cons, List.map_nil, ↓reduceIte, Nat.reduceEqDiff, Nat.reduceLT, Nat.reduceSub, Nat.reduceAdd, Nat.reduceMul, implies_true, true_and, and_true, cond_true, cond_false]
                    first
                    | (simp [okX, k1, tl, schAV]; done)
                    | (simp [okX, k1, k2, tl, schAV]; done)
                    | (simp [okX, k1, k2, tl, schAV]; rw [Bool.eq_iff_iff]; simp; done)
                    | (simp [okX, k1, k2, k3, tl, schAV]; done)
            rintro T1 _ _ ⟨t2, t4, t9, t10, t12, t14, t15, t16, rfl, rfl⟩
            refine awp_sel [2, 4, 9, 10, 12, 14, 15, 16] ?_
            simp only [tsel_eq, List.map_cons, List.map_nil, t2, t4, t9, t10, t12, t14, t15, t16]
            have hn3 : nth (s.map famAV) e.fam.toNat = famAV (famAt s e.fam) := nth_map famAV s _ (by omega)
            refine awp_drw rfl zs [2, 4, 10, 12, 14, 15, 190] [.m, .q, .m, .m, .m, .q, .q, .q, .q, .m, .m, .q, .q, .m, .m, .q, .q, .q, .q, .q, .q, .q, .q, .q] (by kernel_rfl) (fun _ _ _ _ _ h => h) fun K hK => ?_  -- region 29
            try simp only [go_sem, List.map_cons, List.map_nil, ↓reduceIte, Nat.reduceEqDiff, Nat.reduceLT, Nat.reduceSub, Nat.reduceAdd, Nat.reduceMul, implies_true, true_and, and_true, cond_true, cond_false, Int.toNat_natCast, hn1, hn3]
            iterate 14 (first | (refine And.intro ?_ ?_; · first | omega | assumption | (simp; done) | (intros; simp_all; done) | decide) | skip)
            refine hK _ _ _ ?_
            clear hK K
            refine awp_cond (b := _) (by simp only [go_sem, List.map_cons, List.map_nil, ↓reduceIte, Nat.reduceEqDiff, Nat.reduceLT, Nat.reduceSub, Nat.reduceAdd, Nat.reduceMul, implies_true, true_and, and_true, cond_true, cond_false]; rfl) (fun hb => ?_) (fun hb => ?_)  -- t190
            · skip
              have hx : badX s low m v e = true := by unfold badX; rw [hf, ← hcs]; exact hb
              have hq : collectsB s clock low l = false := by rw [hq0, ← hd, hx]; rfl
              refine awp_reg zs [8] fun K hK => ?_  -- region 30
              try simp only [go_sem, List.map_cons, List.map_nil, ↓reduceIte, Nat.reduceEqDiff, Nat.reduceLT, Nat.reduceSub, Nat.reduceAdd, Nat.reduceMul, implies_true, true_and, and_true, cond_true, cond_false]
              iterate 14 (first | (refine And.intro ?_ ?_; · first | omega | assumption | (simp; done) | (intros; simp_all; done) | decide) | skip)
              refine hK _ _ _ ?_
              clear hK K
              refine awp_ret ?_
              try simp only [go_sem, List.map_cons, List.map_nil, ↓reduceIte, Nat.reduceEqDiff, Nat.reduceLT, Nat.reduceSub, Nat.reduceAdd, Nat.reduceMul, implies_true, true_and, and_true, cond_true, cond_false]
              refine ⟨_, rfl, ?_, Frz.eq ?_ trivial⟩
              · intro k hk; have h0 : k ≠ n := by omega
                simp [Heap.put, h0]
              · rw [hq]; first | done | (congr 1; rw [Bool.eq_iff_iff]; simp; done) | (congr 1; rw [Bool.eq_iff_iff]; simp; omega)
            · skip
              have hx : badX s low m v e = false := by unfold badX; rw [hf, ← hcs]; exact hb
              refine awp_skip ?_
              try simp only [go_sem, List.map_cons, List.map_nil, ↓reduceIte, Nat.reduceEqDiff, Nat.reduceLT, Nat.reduceSub, Nat.reduceAdd, Nat.reduceMul, implies_true, true_and, and_true, cond_true, cond_false]
              refine hK5 _ _ _ ?_
              first | clear hK5 K5 | skip
              refine awp_reg1 zs [2, 4, 10, 12, 14, 15] fun K hK => ?_  -- region 11
              try simp only [go_sem, List.map_cons, List.map_nil, ↓reduceIte, Nat.reduceEqDiff, Nat.reduceLT, Nat.reduceSub, Nat.reduceAdd, Nat.reduceMul, implies_true, true_and, and_true, cond_true, cond_false]
              iterate 14 (first | (refine And.intro ?_ ?_; · first | omega | assumption | (simp; done) | (intros; simp_all; done) | decide) | skip)
              refine hK _ _ _ ?_
              clear hK K
              try simp only [go_sem, List.map_cons, List.map_nil, ↓reduceIte, Nat.reduceEqDiff, Nat.reduceLT, Nat.reduceSub, Nat.reduceAdd, Nat.reduceMul, implies_true, true_and, and_true, cond_true, cond_false]
              have hp9 : (if e.kind = 1 then 1 else 0) ≤ 1 := by split <;> omega
              refine ⟨⟨i + 1, p + (if e.kind = 1 then 1 else 0), by omega, by omega, by rw [Rt.w1 (by omega)], by rw [← hd, hx]; rfl, ?_⟩, by rw [Rt.w1 (by omega)]; simp; omega⟩
              rw [← hpu]; unfold putsOf; by_cases h9 : e.kind = 1 <;> simp [h9] <;> omega
      · skip
        have hge : i = m.length := by simp at hb; omega
        rw [hge, List.drop_length] at hd hpu
        have hq : collectsB s clock low l = decide (putsOf m = v.length) := by rw [hq0, ← hd]; rfl
        have hpp : p = putsOf m := by simpa [putsOf] using hpu
        refine awp_exit ?_
        try simp only [go_sem, List.map_cons, List.map_nil, ↓reduceIte, Nat.reduceEqDiff, Nat.reduceLT, Nat.reduceSub, Nat.reduceAdd, Nat.reduceMul, implies_true, true_and, and_true, cond_true, cond_false]
        refine hK3 _ _ _ ?_
        first | clear hK3 K3 | skip
        refine awp_reg zs [8] fun K hK => ?_  -- region 31
        try simp only [go_sem, List.map_cons, List.map_nil, ↓reduceIte, Nat.reduceEqDiff, Nat.reduceLT, Nat.reduceSub, Nat.reduceAdd, Nat.reduceMul, implies_true, true_and, and_true, cond_true, cond_false]
        iterate 14 (first | (refine And.intro ?_ ?_; · first | omega | assumption | (simp; done) | (intros; simp_all; done) | decide) | skip)
        refine hK _ _ _ ?_
        clear hK K
        refine awp_ret ?_
        try simp only [go_sem, List.map_cons, List.map_nil, ↓reduceIte, Nat.reduceEqDiff, Nat.reduceLT, Nat.reduceSub, Nat.reduceAdd, Nat.reduceMul, implies_true, true_and, and_true, cond_true, cond_false]
        refine ⟨_, rfl, ?_, Frz.eq ?_ trivial⟩
        · intro k hk; have h0 : k ≠ n := by omega
          simp [Heap.put, h0]
        · rw [hq]; first | done | (congr 1; rw [Bool.eq_iff_iff]; simp; done) | (congr 1; rw [Bool.eq_iff_iff]; simp; omega)


end Go.Proofs.Ytijhkfhflpmajaa
namespace Go.Proofs.Ytijhkfhflpmajaa
open Go Go.Sx Go.Rt

theorem prepE_alike {s : List Fml} {clock clock' : Int} {times times' : List Int} {k k' : Int} {l : List Ent} (h : (prepE s clock times k l).2 = 0) (hb : boundsE s clock' times' k' = 0) : prepE s clock' times' k' l = prepE s clock times k l := by
  have h1 := (prepE_zero h).1
  have e1 : ∀ {c ts kk}, boundsE s c ts kk = 0 → prepE s c ts kk l = if badsE s l ≠ 0 then ([], badsE s l) else sortedE l := fun h => by unfold prepE; rw [if_neg (by simp [h])]
  rw [e1 h1, e1 hb]
theorem boundsE_iff {s : List Fml} {clock : Int} {times : List Int} {k : Int} : boundsE s clock times k = 0 ↔ schemaE s = 0 ∧ timesBad (clock :: times) = false ∧ bout k 1 16 = false := by
  constructor
  · exact boundsE_zero
  · intro ⟨h1, h2, h3⟩; unfold boundsE; rw [if_neg (by simp [h1]), if_neg (by simp [h2]), if_neg (by simp [h3])]
theorem bounds_vis {s : List Fml} {clock : Int} {times : List Int} {k : Int} (h : boundsE s clock times k = 0) : boundsE s clock [1099511627776] 16 = 0 := by
  obtain ⟨h1, h2, _⟩ := boundsE_iff.1 h
  refine boundsE_iff.2 ⟨h1, ?_, rfl⟩
  simp only [timesBad, List.any_cons, List.any_nil, Bool.or_false, Bool.or_eq_false_iff] at h2 ⊢
  exact ⟨h2.1, rfl⟩
theorem max_of {s : List Fml} (h : schemaE s = 0) : ∀ f ∈ s, 1 ≤ f.max ∧ f.max ≤ 16 := by
  unfold schemaE at h
  split at h
  · exact absurd h (by decide)
  split at h
  · exact absurd h (by decide)
  rename_i h1 h2
  have key : ∀ (all l : List Fml) (i : Nat), famsBad all l i = false → ∀ f ∈ l, 1 ≤ f.max ∧ f.max ≤ 16 := by
    intro all l
    induction l with
    | nil => intro i _ f hf; cases hf
    | cons x l ih =>
      intro i h f hf
      rw [famsBad_cons] at h
      simp only [Bool.or_eq_false_iff] at h
      rcases List.mem_cons.1 hf with rfl | hf
      · have := h.1
        simp only [famBad, Bool.or_eq_false_iff] at this
        have := bout_false this.1.2
        omega
      · exact ih _ h.2 f hf
  exact key s s 0 (Bool.eq_false_iff.2 h2)
theorem famAt_mem {s : List Fml} {e : Ent} (h : checkedE s e = 0) : famAt s e.fam ∈ s := by
  obtain ⟨h1, h2⟩ := checkedE_zero h
  have h3 := bout_false ((chk_iff e).1 h1).fam
  have hlt : e.fam.toNat < s.length := by omega
  simp [famAt, List.getD, List.getElem?_eq_getElem hlt]
theorem ts_hi {s : List Fml} {e : Ent} (h : checkedE s e = 0) : e.ts ≤ 1099511627776 := by
  have := bout_false ((chk_iff e).1 (checkedE_zero h).1).ts; omega

/-- what is visible, of a list that stands ready -/
theorem vis_ok {s : List Fml} {clock : Int} {times : List Int} {k : Int} {l : List Ent} (h : (prepE s clock times k l).2 = 0) : visE s clock l = (visL s clock (prepE s clock times k l).1, 0) := by
  obtain ⟨ho, hc, hb, _⟩ := prep_ok h
  have hp := prepE_alike (k' := 16) (times' := [1099511627776]) h (bounds_vis hb)
  unfold visE readE
  rw [hp, if_neg (by simp [h]), shownOf_eq _ _ _ _ _ ho, RD_vis ho (fun e he => ts_hi (hc e he)) (fun e he => (max_of (boundsE_iff.1 hb).1 _ (famAt_mem (hc e he))).2) (by decide)]
theorem visE_zero {s : List Fml} {clock : Int} {l : List Ent} (h : (visE s clock l).2 = 0) : (prepE s clock [1099511627776] 16 l).2 = 0 := by
  unfold visE readE at h
  by_cases h0 : (prepE s clock [1099511627776] 16 l).2 = 0
  · exact h0
  · rw [if_pos h0] at h; exact h

/-- those of one Seq are one -/
theorem dd_seq {l d : List Ent} (h : ddE [] l = some d) {x y : Ent} (hx : x ∈ l) (hy : y ∈ l) (hs : x.seq = y.seq) : x = y := by
  have h1 := (ddE_mem l [] d h x).2 (.inr hx)
  have h2 := (ddE_mem l [] d h y).2 (.inr hy)
  have h3 := ddE_seq l [] d h List.Pairwise.nil
  by_cases he : x = y
  · exact he
  · exact absurd hs (pairwise_ne h3 h1 h2 he)
theorem ddE_some : ∀ (l acc : List Ent), (∀ x ∈ acc ++ l, ∀ y ∈ acc ++ l, x.seq = y.seq → x = y) → ∃ d, ddE acc l = some d := by
  intro l
  induction l with
  | nil => intro acc _; exact ⟨acc, rfl⟩
  | cons e l ih =>
    intro acc h
    rw [ddE]
    cases hs : seqOf acc e.seq with
    | none =>
      simp only
      exact ih _ fun x hx y hy => h x (by simpa using hx) y (by simpa using hy)
    | some x =>
      obtain ⟨h1, h2⟩ := seqOf_some hs
      have := h x (by simp [h1]) e (by simp) h2
      simp only [this, if_true]
      refine ih _ fun x hx y hy => h x ?_ y ?_
      · rcases List.mem_append.1 hx with h | h <;> simp [h]
      · rcases List.mem_append.1 hy with h | h <;> simp [h]
theorem sortedE_zero {l : List Ent} : (sortedE l).2 = 0 ↔ ∃ d, ddE [] l = some d := by
  unfold sortedE
  cases h : ddE [] l with
  | none => simp
  | some d => simp
theorem badsE_iff {s : List Fml} {l : List Ent} : badsE s l = 0 ↔ ∀ e ∈ l, checkedE s e = 0 := ⟨badsE_fits s l, badsE_all⟩
/-- what stands ready: its parts do too -/
theorem prep_zero_iff {s : List Fml} {clock : Int} {times : List Int} {k : Int} {l : List Ent} : (prepE s clock times k l).2 = 0 ↔ boundsE s clock times k = 0 ∧ (∀ e ∈ l, checkedE s e = 0) ∧ ∀ x ∈ l, ∀ y ∈ l, x.seq = y.seq → x = y := by
  constructor
  · intro h
    obtain ⟨h1, h2, h3, _⟩ := prepE_zero h
    rw [h3] at h
    obtain ⟨d, hd⟩ := sortedE_zero.1 h
    exact ⟨h1, badsE_iff.1 h2, fun x hx y hy => dd_seq hd hx hy⟩
  · intro ⟨h1, h2, h3⟩
    unfold prepE
    rw [if_neg (by simp [h1]), if_neg (by simp [badsE_iff.2 h2])]
    exact sortedE_zero.2 (ddE_some l [] (by simpa using h3))

theorem nbackB_true (s : List Fml) (clock more : Int) (a b : List Ent) : nbackB s clock more a b = true := by
  unfold nbackB
  cases he : earlyB s clock more a b with
  | true => rfl
  | false =>
    simp only [cond_false]
    unfold earlyB at he
    simp only [cond_or, Bool.or_eq_false_iff, decide_eq_false_iff_not, Bool.not_eq_false', beq_iff_eq] at he
    obtain ⟨⟨⟨⟨⟨h1, h2⟩, h3⟩, h4⟩, _⟩, h6⟩ := he
    have hw : IntKind.i64.wrap (1099511627776 - clock) = 1099511627776 - clock := w64 (by omega) (by omega)
    rw [hw] at h4
    have hw2 : IntKind.i64.wrap (clock + more) = clock + more := w64 (by omega) (by omega)
    rw [hw2]
    have hM := visE_zero h6
    obtain ⟨p1, p2, p3⟩ := prep_zero_iff.1 hM
    have hA : (prepE s clock [1099511627776] 16 a).2 = 0 := prep_zero_iff.2 ⟨p1, fun e he => p2 e (by simp [he]), fun x hx y hy => p3 x (by simp [hx]) y (by simp [hy])⟩
    have hb' : boundsE s (clock + more) [1099511627776] 16 = 0 := by
      obtain ⟨q1, q2, q3⟩ := boundsE_iff.1 p1
      refine boundsE_iff.2 ⟨q1, ?_, q3⟩
      simp only [timesBad, List.any_cons, List.any_nil, Bool.or_false, Bool.or_eq_false_iff]
      exact ⟨by simp [bout]; omega, rfl⟩
    have hM' : (prepE s (clock + more) [1099511627776] 16 (a ++ b)).2 = 0 := prep_zero_iff.2 ⟨hb', p2, p3⟩
    rw [vis_ok hA, vis_ok hM']
    simp only [bne_self_eq_false, cond_false]
    rw [Bool.not_eq_true', List.any_eq_false]
    intro e hea hx
    unfold backX at hx
    simp only [cond_and, Bool.and_eq_true, beq_iff_eq, Bool.not_eq_true'] at hx
    obtain ⟨⟨hk, hnv⟩, hw'⟩ := hx
    obtain ⟨oa, ca, _, ma⟩ := prep_ok hA
    obtain ⟨oM, cM, _, mM⟩ := prep_ok hM'
    have heM : e ∈ (prepE s (clock + more) [1099511627776] 16 (a ++ b)).1 := (mM e).2 (by simp [hea])
    have hem : e ∈ (prepE s clock [1099511627776] 16 a).1 := (ma e).2 hea
    unfold shownB at hw' hnv
    rw [List.any_eq_true] at hw'
    obtain ⟨x, hx, hxe⟩ := hw'
    obtain ⟨hxM, hxv⟩ := List.mem_filter.1 hx
    have hxv : vis s (clock + more) (prepE s (clock + more) [1099511627776] 16 (a ++ b)).1 x := by simpa using hxv
    have hse : x.seq = e.seq := by unfold shownX at hxe; simp at hxe; exact hxe.1.1.1.2
    have : x = e := by
      by_cases h : x = e
      · exact h
      · exact absurd hse (pairwise_ne oM.seq hxM heM h)
    subst this
    have hv := vis_back (clock := clock) (clock' := clock + more) oa (M := (prepE s (clock + more) [1099511627776] 16 (a ++ b)).1) (fun y hy => (mM y).2 (by simp [(ma y).1 hy])) (by omega)
      (fun y hy => (ttl_of (boundsE_iff.1 hb').1 _ (famAt_mem (cM y hy))).1) hem hk hxv
    rw [List.any_eq_false] at hnv
    exact hnv x (List.mem_filter.2 ⟨hem, by simpa using hv⟩) (by simp [shownX])

theorem shownG_len (f : List Fml) (st : SSt) (d : Dec) : (shownG f st d).out.length ≤ st.out.length + 1 := by
  unfold shownG; repeat' split
  all_goals simp
theorem readE_length (s : List Fml) (clock t n : Int) (l : List Ent) : (readE s clock t n l).1.length ≤ 2 * l.length + 1 := by
  unfold readE
  split
  · simp
  · rename_i h
    obtain ⟨_, _, _, _, hlen⟩ := prepE_zero (by simpa using h)
    have h2 := evP_len (prepE s clock [t] n l).1 (wlk0 s clock)
    have h1 : ∀ (v : List Ev) (st : SSt), (v.foldl (evT (shownG s) id fun st _ _ => st) st).out.length ≤ st.out.length + v.length := by
      intro v
      induction v with
      | nil => intro st; simp
      | cons x v ih =>
        intro st
        rw [List.foldl_cons]
        have h3 := ih (evT (shownG s) id (fun st _ _ => st) st x)
        have h4 : (evT (shownG s) id (fun st _ _ => st) st x).out.length ≤ st.out.length + 1 := by
          cases x with
          | g d => exact shownG_len s st d
          | o => show st.out.length ≤ _; omega
          | m e b => show st.out.length ≤ _; omega
        simp only [List.length_cons]; omega
    have h5 := h1 (evP (prepE s clock [t] n l).1 (wlk0 s clock)) (sst0 t n)
    have h6 : (sst0 t n).out.length = 0 := rfl
    show (shownOf s clock t n _).out.length ≤ _
    unfold shownOf
    omega
theorem visE_length (s : List Fml) (clock : Int) (l : List Ent) : (visE s clock l).1.length ≤ 2 * l.length + 1 := readE_length s clock _ _ l
end Go.Proofs.Ytijhkfhflpmajaa


namespace Go.Rt
open Go Go.Sx Classical

theorem order_ext : ∀ {l l' : List Ent}, (∀ x, x ∈ l ↔ x ∈ l') → (l.Pairwise fun a b => compE a b < 0) → (l'.Pairwise fun a b => compE a b < 0) → l = l'
  | [], [], _, _, _ => rfl
  | [], b :: l', h, _, _ => by have := (h b).2 (by simp); cases this
  | a :: l, [], h, _, _ => by have := (h a).1 (by simp); cases this
  | a :: l, b :: l', h, h1, h2 => by
    obtain ⟨a1, a2⟩ := List.pairwise_cons.1 h1
    obtain ⟨b1, b2⟩ := List.pairwise_cons.1 h2
    have hab : a = b := by
      have ha : a ∈ b :: l' := (h a).1 (by simp)
      have hb : b ∈ a :: l := (h b).2 (by simp)
      rcases List.mem_cons.1 ha with e | ha
      · exact e
      · rcases List.mem_cons.1 hb with e | hb
        · exact e.symm
        · exact absurd (a1 b hb) (comp_asym (b1 a ha))
    subst hab
    rw [order_ext (fun x => ?_) a2 b2]
    have hx := h x
    constructor
    · intro hl
      rcases List.mem_cons.1 (hx.1 (by simp [hl])) with e | h'
      · subst e; exact absurd (a1 x hl) (comp_irr x)
      · exact h'
    · intro hl
      rcases List.mem_cons.1 (hx.2 (by simp [hl])) with e | h'
      · subst e; exact absurd (b1 x hl) (comp_irr x)
      · exact h'

/-- a greatest one, by time and then by Seq -/
theorem exists_max {m : List Ent} {A : Ent → Prop} {k : Ent} (hk : k ∈ m) (hA : A k) : ∃ g ∈ m, A g ∧ (k.ts < g.ts ∨ k.ts = g.ts ∧ k.seq ≤ g.seq) ∧ ∀ x ∈ m, A x → x.ts < g.ts ∨ x.ts = g.ts ∧ x.seq ≤ g.seq := by
  suffices h : ∀ (l : List Ent), (∀ x ∈ l, x ∈ m) → ∃ g ∈ m, A g ∧ (k.ts < g.ts ∨ k.ts = g.ts ∧ k.seq ≤ g.seq) ∧ ∀ x ∈ l, A x → x.ts < g.ts ∨ x.ts = g.ts ∧ x.seq ≤ g.seq from h m fun x hx => hx
  intro l
  induction l with
  | nil => intro _; exact ⟨k, hk, hA, .inr ⟨rfl, Int.le_refl _⟩, fun x hx => by cases hx⟩
  | cons e l ih =>
    intro hl
    obtain ⟨g, hg, hAg, hkg, hx⟩ := ih fun x hx => hl x (by simp [hx])
    by_cases he : A e ∧ (g.ts < e.ts ∨ g.ts = e.ts ∧ g.seq ≤ e.seq)
    · refine ⟨e, hl e (by simp), he.1, by rcases he.2 with h | h <;> rcases hkg with h' | h' <;> omega, fun x hxm hAx => ?_⟩
      rcases List.mem_cons.1 hxm with rfl | h
      · exact .inr ⟨rfl, Int.le_refl _⟩
      · have := hx x h hAx
        rcases he.2 with h9 | h9 <;> omega
    · refine ⟨g, hg, hAg, hkg, fun x hxm hAx => ?_⟩
      rcases List.mem_cons.1 hxm with rfl | h
      · have : ¬ (g.ts < x.ts ∨ g.ts = x.ts ∧ g.seq ≤ x.seq) := fun h => he ⟨hAx, h⟩
        omega
      · exact hx x h hAx

/-- the topmost K of what is counted above -/
theorem topmost {s : List Fml} {clock : Int} {m : List Ent} (hm : InOrder m) {e : Ent} {K : Nat} (hK : K ≤ above s clock m e) :
    K ≤ (m.filter fun x => decide ((counted s clock m x ∧ mates x e ∧ e.ts < x.ts) ∧ above s clock m x < K)).length := by
  have h1 : (m.filter fun x => decide ((counted s clock m x ∧ mates x e ∧ e.ts < x.ts) ∧ above s clock m x < K)) = (m.filter fun x => decide (counted s clock m x ∧ mates x e ∧ e.ts < x.ts)).filter fun x => decide (above s clock m x < K) := by
    rw [List.filter_filter]
    refine List.filter_congr fun x _ => ?_
    by_cases h1 : (counted s clock m x ∧ mates x e ∧ e.ts < x.ts) <;> by_cases h2 : above s clock m x < K <;> simp [h1, h2]
  rw [h1]
  generalize hF : (m.filter fun x => decide (counted s clock m x ∧ mates x e ∧ e.ts < x.ts)) = F
  have hKF : K ≤ F.length := by rw [← hF]; exact hK
  have hFm : ∀ x ∈ F, x ∈ m ∧ counted s clock m x ∧ mates x e ∧ e.ts < x.ts := fun x hx => by
    rw [← hF] at hx
    obtain ⟨a, b⟩ := List.mem_filter.1 hx
    exact ⟨a, by simpa using b⟩
  have hFs : F.Pairwise fun a b => compE a b < 0 := by rw [← hF]; exact hm.srt.sublist List.filter_sublist
  -- the one at place i has at most i above it
  have hidx : ∀ (u : List Ent) (x : Ent) (v : List Ent), F = u ++ x :: v → above s clock m x ≤ u.length := by
    intro u x v he
    have hxF : x ∈ F := by rw [he]; simp
    obtain ⟨_, hxc, hxm, hxt⟩ := hFm x hxF
    have e1 : above s clock m x ≤ (F.filter fun y => decide (x.ts < y.ts)).length := by
      unfold above
      have e2 : (m.filter fun y => decide (counted s clock m y ∧ mates y x ∧ x.ts < y.ts)) = F.filter fun y => decide (x.ts < y.ts) := by
        rw [← hF, List.filter_filter]
        refine List.filter_congr fun y _ => ?_
        rw [Bool.eq_iff_iff, Bool.and_eq_true]
        simp only [decide_eq_true_eq]
        exact ⟨fun ⟨a, b, c⟩ => ⟨c, a, b.trans hxm, by omega⟩, fun ⟨c, a, b, _⟩ => ⟨a, b.trans hxm.symm, c⟩⟩
      rw [e2]; exact Nat.le_refl _
    have e3 : (F.filter fun y => decide (x.ts < y.ts)).length ≤ u.length := by
      rw [he, List.filter_append, List.length_append]
      have : ((x :: v).filter fun y => decide (x.ts < y.ts)).length = 0 := count_none (A := fun y => x.ts < y.ts) fun y hy hlt => by
        rcases List.mem_cons.1 hy with rfl | hy
        · omega
        · have hyF : y ∈ F := by rw [he]; simp [hy]
          obtain ⟨_, hyc, hym, _⟩ := hFm y hyF
          have hxy : compE x y < 0 := by
            rw [he] at hFs
            exact (List.pairwise_cons.1 (List.pairwise_append.1 hFs).2.1).1 y hy
          rcases newer_first hxy (hxm.trans hym.symm) ⟨fun h => absurd h hxc.1.1.2, fun h => absurd h hyc.1.1.2⟩ ⟨fun h => absurd h hxc.1.1.1, fun h => absurd h hyc.1.1.1⟩ with h | h <;> omega
      have := List.length_filter_le (fun y => decide (x.ts < y.ts)) u
      omega
    omega
  have hsplit : F = F.take K ++ F.drop K := (List.take_append_drop K F).symm
  rw [hsplit, List.filter_append, List.length_append]
  have hall : (F.take K).filter (fun x => decide (above s clock m x < K)) = F.take K := by
    refine List.filter_eq_self.2 fun x hx => ?_
    obtain ⟨u, v, huv⟩ := List.append_of_mem hx
    have h2 := hidx u x (v ++ F.drop K) (hsplit.trans (by rw [huv]; simp))
    have h3 : u.length < K := by
      have : (F.take K).length = u.length + 1 + v.length := by rw [huv, List.length_append, List.length_cons]; omega
      have : (F.take K).length ≤ K := by rw [List.length_take]; omega
      omega
    exact decide_eq_true (by omega)
  rw [hall]
  have : (F.take K).length = K := by rw [List.length_take]; omega
  omega

/-- as many are counted above the other -/
theorem above_ge {s : List Fml} {clock clock' : Int} {m m' : List Ent} (hm : InOrder m) {e e' : Ent} {K : Nat} (hK : K ≤ above s clock m e)
    (h : ∀ x ∈ m, counted s clock m x → mates x e → e.ts < x.ts → above s clock m x < K → ∃ y ∈ m', counted s clock' m' y ∧ mates y e' ∧ e'.ts < y.ts ∧ y.ts = x.ts) : K ≤ above s clock' m' e' := by
  refine Nat.le_trans (topmost hm hK) ?_
  have h1 := filter_ts (m := m) (A := fun x => (counted s clock m x ∧ mates x e ∧ e.ts < x.ts) ∧ above s clock m x < K) (fun x hx y hy a b ht => counted_ts hm hx hy a.1.1 b.1.1 (a.1.2.1.trans b.1.2.1.symm) ht) (l := m) (fun x hx => hx) hm.seq
  have h2 := nodup_sub (l' := (m'.filter fun x => decide (counted s clock' m' x ∧ mates x e' ∧ e'.ts < x.ts)).map (·.ts)) h1 fun t ht => by
    obtain ⟨x, hx, rfl⟩ := List.mem_map.1 ht
    obtain ⟨hxm, ha⟩ := List.mem_filter.1 hx
    have ha : (counted s clock m x ∧ mates x e ∧ e.ts < x.ts) ∧ above s clock m x < K := by simpa using ha
    obtain ⟨y, hy, b1, b2, b3, b4⟩ := h x hxm ha.1.1 ha.1.2.1 ha.1.2.2 ha.2
    rw [← b4]
    exact List.mem_map.2 ⟨y, List.mem_filter.2 ⟨hy, by simp [b1, b2, b3]⟩, rfl⟩
  rw [List.length_map, List.length_map] at h2
  exact h2

/-- out is out for all of one group -/
theorem masked_grp {m : List Ent} {x y : Ent} (hg : mates x y) (ht : x.ts = y.ts) (h : masked m x) : masked m y := by
  obtain ⟨k, hk, ho, hkt⟩ := h
  refine ⟨k, hk, ?_, by omega⟩
  rcases ho with ⟨h5, hf⟩ | ⟨h4, hf⟩
  · exact .inl ⟨h5, hf.trans hg.1⟩
  · exact .inr ⟨h4, hf.trans hg⟩
theorem masked_below {m : List Ent} {x y : Ent} (hg : mates x y) (ht : y.ts ≤ x.ts) (h : masked m x) : masked m y := by
  obtain ⟨k, hk, ho, hkt⟩ := h
  refine ⟨k, hk, ?_, by omega⟩
  rcases ho with ⟨h5, hf⟩ | ⟨h4, hf⟩
  · exact .inl ⟨h5, hf.trans hg.1⟩
  · exact .inr ⟨h4, hf.trans hg⟩
theorem expd_below {s : List Fml} {clock : Int} {x y : Ent} (hg : mates x y) (ht : y.ts ≤ x.ts) (h : expd s clock x) : expd s clock y := by
  unfold expd at *
  rw [hg.1.1] at h
  exact ⟨h.1, by omega⟩
theorem out_below {s : List Fml} {clock : Int} {m : List Ent} {x y : Ent} (hg : mates x y) (ht : y.ts ≤ x.ts) (h : isOut s clock m x) : isOut s clock m y :=
  h.elim (fun h => .inl (masked_below hg ht h)) fun h => .inr (expd_below hg ht h)
theorem lone_grp {m : List Ent} {x y : Ent} (hg : grp x y) (h : lone m x) : lone m y := fun z hz hgz => h z hz (hgz.trans hg.symm)

/-- more is seen: what was counted above is -/
theorem above_more {s : List Fml} {clock clock' : Int} {m M : List Ent} (hm : InOrder m) (hsub : ∀ x ∈ m, x ∈ M) {e e' : Ent} (hg : mates e e') (ht : e.ts = e'.ts) (hout : ¬ isOut s clock' M e') : above s clock m e ≤ above s clock' M e' :=
  above_le hm fun x hx hcx hmt hlt => by
    obtain ⟨y, hy, hfy, hgy⟩ := exists_first (hsub x hx) hcx.1.1
    have hye : mates y e' := (hgy.2.2.1.trans hmt).trans hg
    refine ⟨y, hy, ⟨hfy, fun h => hout (out_below hye (by have := hgy.2.2.2; omega) h), fun h => hcx.2.2 fun z hz hgz => h z (hsub z hz) (hgz.trans hgy.symm)⟩, hye, by have := hgy.2.2.2; omega, hgy.2.2.2⟩

/-- a list, its squash, what comes behind -/
structure Behind (s : List Fml) (clock clock' : Int) (mj : Bool) (low : Int) (m b M N : List Ent) : Prop where
  om : InOrder m
  oM : InOrder M
  oN : InOrder N
  mM : ∀ x, x ∈ M ↔ x ∈ m ∨ x ∈ b
  mN : ∀ x, x ∈ N ↔ x ∈ m.flatMap (keepD s clock mj low m) ∨ x ∈ b
  hc : clock ≤ clock'
  ttl : ∀ e ∈ M, 0 ≤ (famAt s e.fam).ttl
  max : ∀ e ∈ M, 1 ≤ (famAt s e.fam).max
  kind : ∀ e ∈ M, 1 ≤ e.kind ∧ e.kind ≤ 5
  low : mj = true → ∀ e ∈ b, low < e.ts
  seq : mj = true → ∀ x ∈ m, ∀ e ∈ b, x.seq < e.seq

section
variable {s : List Fml} {clock clock' : Int} {mj : Bool} {low : Int} {m b M N : List Ent}

theorem Behind.sub (h : Behind s clock clock' mj low m b M N) : ∀ x ∈ m, x ∈ M := fun x hx => (h.mM x).2 (.inl hx)
theorem Behind.subb (h : Behind s clock clock' mj low m b M N) : ∀ x ∈ b, x ∈ M := fun x hx => (h.mM x).2 (.inr hx)
theorem Behind.subN (h : Behind s clock clock' mj low m b M N) : ∀ x ∈ b, x ∈ N := fun x hx => (h.mN x).2 (.inr hx)
theorem Behind.keptN (h : Behind s clock clock' mj low m b M N) {y : Ent} (hy : y ∈ m) (hk : keeps s clock mj low m y) : form m y ∈ N := (h.mN _).2 (.inl (mem_T.2 ⟨y, hy, hk, rfl⟩))
theorem out_later (hc : clock ≤ clock') (hs : ∀ x ∈ m, x ∈ M) {e : Ent} (h : isOut s clock m e) : isOut s clock' M e := by
  rcases h with ⟨x, hx, ho, ht⟩ | h
  · exact .inl ⟨x, hs x hx, ho, ht⟩
  · exact .inr ⟨h.1, by have := h.2; omega⟩

/-- in N masked is in M masked -/
theorem Behind.maskM (h : Behind s clock clock' mj low m b M N) {e : Ent} (hk : masked N e) : masked M e := by
  obtain ⟨k, hkN, ho, ht⟩ := hk
  rcases (h.mN k).1 hkN with hk | hk
  · obtain ⟨z, hz, _, rfl⟩ := mem_T.1 hk
    have hl := form_like m z
    refine ⟨z, h.sub z hz, ?_, by rw [← hl.ts]; exact ht⟩
    rcases ho with ⟨h5, hf⟩ | ⟨h4, hf⟩
    · exact .inl ⟨hl.k5.1 h5, ((hl.fams (.refl e)).1 hf)⟩
    · exact .inr ⟨hl.k4.1 h4, ((hl.mate (.refl e)).1 hf)⟩
  · exact ⟨k, h.subb k hk, ho, ht⟩
/-- and back, of what is in N -/
theorem Behind.maskN (h : Behind s clock clock' mj low m b M N) {e : Ent} (heN : e ∈ N) (hv : ver e) (hk : masked M e) : masked N e := by
  obtain ⟨k, hkM, ho, ht⟩ := hk
  rcases (h.mM k).1 hkM with hk | hk
  · rcases (h.mN e).1 heN with he | he
    · exfalso
      obtain ⟨z, hz, hkz, rfl⟩ := mem_T.1 he
      have hl := form_like m z
      have hvz := hl.ver.1 hv
      refine ((keeps_ver hvz).1 hkz).2.1 (.inl ⟨k, hk, ?_, by rw [← hl.ts]; exact ht⟩)
      rcases ho with ⟨h5, hf⟩ | ⟨h4, hf⟩
      · exact .inl ⟨h5, ((Like.refl k).fams hl).1 hf⟩
      · exact .inr ⟨h4, ((Like.refl k).mate hl).1 hf⟩
    · have hlo : ∀ t, e.ts ≤ t → ¬ (mj = true ∧ t ≤ low) := fun t ht' ⟨hm, hl⟩ => by have := h.low hm e he; omega
      have fam5 : ∀ k ∈ m, k.kind = 5 → famOf k e → e.ts ≤ k.ts → masked N e := fun k hk h5 hf ht => by
        obtain ⟨g, hg, ⟨g5, gf⟩, hkg, hmx⟩ := exists_max (A := fun x => x.kind = 5 ∧ famOf x e) hk ⟨h5, hf⟩
        have hgk : keeps s clock mj low m g := by
          unfold keeps; rw [if_pos g5]
          exact ⟨fun x hx hx5 hxf => hmx x hx ⟨hx5, hxf.trans gf⟩, hlo _ (by omega)⟩
        have hfg : form m g = g := by
          rcases form_cases m g with ⟨h1, _⟩ | ⟨_, h1, _⟩
          · exact h1
          · exact absurd g5 h1.2
        have hgN := h.keptN hg hgk
        rw [hfg] at hgN
        exact ⟨g, hgN, .inl ⟨g5, gf⟩, by omega⟩
      rcases ho with ⟨h5, hf⟩ | ⟨h4, hf⟩
      · exact fam5 k hk h5 hf ht
      · obtain ⟨g, hg, ⟨g4, gm⟩, hkg, hmx⟩ := exists_max (A := fun x => x.kind = 4 ∧ mates x e) hk ⟨h4, hf⟩
        by_cases hx : ∃ x ∈ m, x.kind = 5 ∧ famOf x g ∧ g.ts ≤ x.ts
        · obtain ⟨x, hx, x5, xf, xt⟩ := hx
          exact fam5 x hx x5 (xf.trans gm.1) (by omega)
        · have hgk : keeps s clock mj low m g := by
            unfold keeps; rw [if_neg (by omega), if_pos g4]
            refine ⟨⟨fun x hx' hx4 hxm => hmx x hx' ⟨hx4, hxm.trans gm⟩, fun x hx' hx5 hxf => ?_⟩, hlo _ (by omega)⟩
            by_cases hlt : x.ts < g.ts
            · exact hlt
            · exact absurd ⟨x, hx', hx5, hxf, by omega⟩ hx
          have hfg : form m g = g := by
            rcases form_cases m g with ⟨h1, _⟩ | ⟨_, h1, _⟩
            · exact h1
            · exact absurd g4 h1.1
          have hgN := h.keptN hg hgk
          rw [hfg] at hgN
          exact ⟨g, hgN, .inr ⟨g4, gm⟩, by omega⟩
  · exact ⟨k, h.subN k hk, ho, ht⟩

/-- a group of the list that is not of tombstones alone, is in, and stands high enough: it stays -/
theorem Behind.stays (h : Behind s clock clock' mj low m b M N) {w : Ent} (hw : w ∈ m) (hvw : ver w) (hw3 : w.kind ≠ 3) (hout : ¬ isOut s clock m w) (hab : (above s clock m w : Int) < (famAt s w.fam).max) : ∃ y ∈ N, grp y w ∧ y.kind ≠ 3 := by
  obtain ⟨d, hd, hfd, hg⟩ := exists_first hw hvw
  have hnl : ¬ lone m d := fun hl => hw3 (hl w hw hg.symm)
  have hod : ¬ isOut s clock m d := fun ho => hout (out_below hg.2.2.1 (by have := hg.2.2.2; omega) ho)
  have haw : above s clock m d ≤ above s clock m w := above_le h.om fun x hx hc hmt hlt => ⟨x, hx, hc, hmt.trans hg.2.2.1, by have := hg.2.2.2; omega, rfl⟩
  have hk : keeps s clock mj low m d := (keeps_ver hfd.1).2 ⟨hfd, hod, by rw [if_neg hnl, hg.2.2.1.1.1]; omega⟩
  refine ⟨form m d, h.keptN hd hk, ((form_like m d).grps (.refl w)).2 hg, ?_⟩
  rcases form_cases m d with ⟨h1, h2⟩ | ⟨h1, _⟩
  · rw [h1]; intro h3; exact h2 ⟨hfd.1, hnl, .inr h3⟩
  · rw [h1]; simp [hsk]

/-- what is counted high enough has its like in N -/
theorem Behind.toN (h : Behind s clock clock' mj low m b M N) {x : Ent} (hx : x ∈ M) (hc : counted s clock' M x) (hab : (above s clock' M x : Int) < (famAt s x.fam).max) : ∃ y ∈ N, counted s clock' N y ∧ mates y x ∧ y.ts = x.ts := by
  have hw : ∃ w ∈ N, grp w x ∧ w.kind ≠ 3 := by
    have : ∃ w ∈ M, grp w x ∧ w.kind ≠ 3 := by
      by_cases hh : ∃ w ∈ M, grp w x ∧ w.kind ≠ 3
      · exact hh
      · exfalso
        apply hc.2.2
        intro z hz hg
        by_cases h3 : z.kind = 3
        · exact h3
        · exact absurd ⟨z, hz, hg, h3⟩ hh
    obtain ⟨w, hwM, hg, hw3⟩ := this
    rcases (h.mM w).1 hwM with hwm | hwb
    · have hout : ¬ isOut s clock m w := fun ho => hc.2.1 (out_below hg.2.2.1 (by have := hg.2.2.2; omega) (out_later h.hc h.sub ho))
      have hle : above s clock m w ≤ above s clock' M x := above_more h.om h.sub hg.2.2.1 hg.2.2.2 hc.2.1
      obtain ⟨y, hy, hgy, hy3⟩ := h.stays hwm hg.1 hw3 hout (by rw [hg.2.2.1.1.1]; omega)
      exact ⟨y, hy, hgy.trans hg, hy3⟩
    · exact ⟨w, h.subN w hwb, hg, hw3⟩
  obtain ⟨w, hwN, hg, hw3⟩ := hw
  obtain ⟨y, hy, hfy, hgy⟩ := exists_first hwN hg.1
  have hyx := hgy.trans hg
  refine ⟨y, hy, ⟨hfy, ?_, fun hl => hw3 (hl w hwN hgy.symm)⟩, hyx.2.2.1, hyx.2.2.2⟩
  rintro (hk | hk)
  · exact hc.2.1 (.inl (masked_grp hyx.2.2.1 hyx.2.2.2 (h.maskM hk)))
  · exact hc.2.1 (.inr (expd_below hyx.2.2.1 (by have := hyx.2.2.2; omega) hk))

/-- what is counted in N has its like in M -/
theorem Behind.toM (h : Behind s clock clock' mj low m b M N) {x : Ent} (hx : x ∈ N) (hc : counted s clock' N x) : ∃ y ∈ M, counted s clock' M y ∧ mates y x ∧ y.ts = x.ts := by
  have hin : ∀ z ∈ N, ∃ w ∈ M, Like z w ∧ (z.kind ≠ 3 → ver z → ∃ u ∈ M, grp u w ∧ u.kind ≠ 3) := fun z hz => by
    rcases (h.mN z).1 hz with hz | hz
    · obtain ⟨y, hy, hk, rfl⟩ := mem_T.1 hz
      refine ⟨y, h.sub y hy, form_like m y, fun h3 hv => ?_⟩
      have hvy := (form_like m y).ver.1 hv
      rcases form_cases m y with ⟨h1, _⟩ | ⟨_, _, hnl, _⟩
      · rw [h1] at h3; exact ⟨y, h.sub y hy, .refl hvy, h3⟩
      · by_cases hh : ∃ u ∈ m, grp u y ∧ u.kind ≠ 3
        · obtain ⟨u, hu, hg, h3⟩ := hh; exact ⟨u, h.sub u hu, hg, h3⟩
        · exfalso; apply hnl
          intro z hz hg
          by_cases h3 : z.kind = 3
          · exact h3
          · exact absurd ⟨z, hz, hg, h3⟩ hh
    · exact ⟨z, h.subb z hz, .refl z, fun h3 hv => ⟨z, h.subb z hz, .refl hv, h3⟩⟩
  obtain ⟨w, hw, hl, _⟩ := hin x hx
  have hvx := hc.1.1
  obtain ⟨y, hy, hfy, hg⟩ := exists_first hw (hl.ver.1 hvx)
  have hgx : grp y x := ((Like.refl y).grps hl).2 hg
  refine ⟨y, hy, ⟨hfy, ?_, ?_⟩, hgx.2.2.1, hgx.2.2.2⟩
  · rintro (hk | hk)
    · exact hc.2.1 (.inl (h.maskN hx hvx (masked_grp hgx.2.2.1 hgx.2.2.2 hk)))
    · exact hc.2.1 (.inr (expd_below hgx.2.2.1 (by have := hgx.2.2.2; omega) hk))
  · intro hlo
    apply hc.2.2
    intro z hz hgz
    by_cases h3 : z.kind = 3
    · exact h3
    · obtain ⟨v, hv, hlv, hu⟩ := hin z hz
      obtain ⟨u, huM, hgu, hu3⟩ := hu h3 hgz.1
      have : grp u y := by
        have h1 : grp u z := ((Like.refl u).grps hlv).2 hgu
        exact (h1.trans hgz).trans hgx.symm
      exact absurd (hlo u huM this) hu3

/-- NEVER SEEN -/
theorem Behind.vis_iff (h : Behind s clock clock' mj low m b M N) (e : Ent) : (e ∈ M ∧ vis s clock' M e) ↔ (e ∈ N ∧ vis s clock' N e) := by
  constructor
  · rintro ⟨heM, hc, hab, k2, k3⟩
    have hve := hc.1.1
    have hk := h.kind e heM
    have hk1 : e.kind = 1 := by have := hve.1; have := hve.2; omega
    have heN : e ∈ N := by
      rcases (h.mM e).1 heM with he | he
      · have hv := vis_back h.om h.sub h.hc h.ttl he hk1 ⟨hc, hab, k2, k3⟩
        have hkp : keeps s clock mj low m e := (keeps_ver hve).2 ⟨hv.1.1, hv.1.2.1, by rw [if_neg hv.1.2.2]; exact hv.2.1⟩
        have hf : form m e = e := by
          rcases form_cases m e with ⟨h1, _⟩ | ⟨_, _, _, h1⟩
          · exact h1
          · omega
        have := h.keptN he hkp
        rw [hf] at this; exact this
      · exact h.subN e he
    refine ⟨heN, ⟨⟨hve, fun x hx hg => ?_⟩, ?_, fun hl => by have := hl e heN (.refl hve); omega⟩, ?_, k2, k3⟩
    · rcases (h.mN x).1 hx with hx | hx
      · obtain ⟨z, hz, _, rfl⟩ := mem_T.1 hx
        rw [(form_like m z).seq]
        exact hc.1.2 z (h.sub z hz) (((form_like m z).grps (.refl e)).1 hg)
      · exact hc.1.2 x (h.subb x hx) hg
    · rintro (hk | hk)
      · exact hc.2.1 (.inl (h.maskM hk))
      · exact hc.2.1 (.inr hk)
    · have : above s clock' N e ≤ above s clock' M e := above_le h.oN fun x hx hcx hmt hlt => by
        obtain ⟨y, hy, hcy, hym, hyt⟩ := h.toM hx hcx
        exact ⟨y, hy, hcy, hym.trans hmt, by omega, hyt⟩
      omega
  · rintro ⟨heN, hc, hab, k2, k3⟩
    have hve := hc.1.1
    have heM : e ∈ M := by
      rcases (h.mN e).1 heN with he | he
      · obtain ⟨z, hz, _, rfl⟩ := mem_T.1 he
        rcases form_cases m z with ⟨h1, _⟩ | ⟨h1, _⟩
        · rw [h1]; exact h.sub z hz
        · rw [h1] at k2; simp [hsk] at k2
      · exact h.subb e he
    have hk := h.kind e heM
    have hk1 : e.kind = 1 := by have := hve.1; have := hve.2; omega
    have hout : ¬ isOut s clock' M e := by
      rintro (hk | hk)
      · exact hc.2.1 (.inl (h.maskN heN hve hk))
      · exact hc.2.1 (.inr hk)
    have hmax := h.max e heM
    refine ⟨heM, ⟨⟨hve, fun x hx hg => ?_⟩, hout, fun hl => by have := hl e heM (.refl hve); omega⟩, ?_, k2, k3⟩
    · rcases (h.mM x).1 hx with hxm | hxb
      · obtain ⟨d, hd, hfd, hgd⟩ := exists_first hxm hg.1
        have hxd := hfd.2 x hxm hgd.symm
        have hde := hgd.trans hg
        by_cases hkd : keeps s clock mj low m d
        · have h1 := hc.1.2 _ (h.keptN hd hkd) (((form_like m d).grps (.refl e)).2 hde)
          rw [(form_like m d).seq] at h1
          omega
        · have hod : ¬ isOut s clock m d := fun ho => hout (out_below hde.2.2.1 (by have := hde.2.2.2; omega) (out_later h.hc h.sub ho))
          by_cases hl : Rt.lone m d
          · have hmj : mj = true := by
              cases hm : mj with
              | true => rfl
              | false => exact absurd ((keeps_ver hfd.1).2 ⟨hfd, hod, by rw [if_pos hl]; exact hm⟩) hkd
            rcases (h.mN e).1 heN with he | he
            · obtain ⟨z, hz, hkz, hez⟩ := mem_T.1 he
              have hlz := form_like m z
              rw [hez] at hg hve ⊢
              have hvz := hlz.ver.1 hve
              rw [hlz.seq]
              exact ((keeps_ver hvz).1 hkz).1.2 x hxm (((Like.refl x).grps hlz).1 hg)
            · have := h.seq hmj x hxm e he; omega
          · exfalso
            have habd : (famAt s d.fam).max ≤ (above s clock m d : Int) := by
              by_cases h9 : (above s clock m d : Int) < (famAt s d.fam).max
              · exact absurd ((keeps_ver hfd.1).2 ⟨hfd, hod, by rw [if_neg hl]; exact h9⟩) hkd
              · omega
            rw [hde.2.2.1.1.1] at habd
            have hK : (famAt s e.fam).max.toNat ≤ above s clock m d := by omega
            have := above_ge (clock' := clock') (m' := N) (e' := e) h.om hK fun y hy hcy hmt hlt habx => by
              have hye : mates y e := hmt.trans hde.2.2.1
              have hyt : e.ts < y.ts := by have := hde.2.2.2; omega
              have hk9 : keeps s clock mj low m y := (keeps_ver hcy.1.1).2 ⟨hcy.1, hcy.2.1, by rw [if_neg hcy.2.2, hye.1.1]; omega⟩
              have hfyN := h.keptN hy hk9
              have hly := form_like m y
              obtain ⟨u, hu, hfu, hgu⟩ := exists_first hfyN (hly.ver.2 hcy.1.1)
              have huy : mates u y := ((Like.refl u).mate hly).1 hgu.2.2.1
              have hut : u.ts = y.ts := by rw [hgu.2.2.2, hly.ts]
              refine ⟨u, hu, ⟨hfu, fun ho => hc.2.1 (out_below (huy.trans hye) (by omega) ho), fun hlo => ?_⟩, huy.trans hye, by omega, hut⟩
              have h3 := hlo _ hfyN hgu.symm
              rcases form_cases m y with ⟨h1, h2⟩ | ⟨h1, _⟩
              · rw [h1] at h3; exact h2 ⟨hcy.1.1, hcy.2.2, .inr h3⟩
              · rw [h1] at h3; simp [hsk] at h3
            omega
      · exact hc.1.2 x (h.subN x hxb) hg
    · by_cases h9 : (above s clock' M e : Int) < (famAt s e.fam).max
      · exact h9
      · exfalso
        have hK : (famAt s e.fam).max.toNat ≤ above s clock' M e := by omega
        have := above_ge (clock' := clock') (m' := N) (e' := e) h.oM hK fun x hx hcx hmt hlt habx => by
          obtain ⟨y, hy, hcy, hym, hyt⟩ := h.toN hx hcx (by rw [hmt.1.1]; omega)
          exact ⟨y, hy, hcy, hym.trans hmt, by omega, hyt⟩
        omega

theorem Behind.visL_eq (h : Behind s clock clock' mj low m b M N) : visL s clock' M = visL s clock' N := by
  refine order_ext (fun x => ?_) (h.oM.srt.sublist List.filter_sublist) (h.oN.srt.sublist List.filter_sublist)
  unfold visL
  rw [List.mem_filter, List.mem_filter, decide_eq_true_eq, decide_eq_true_eq]
  exact h.vis_iff x

theorem fold_max (l : List Ent) : ∀ (t : Int), t ≤ l.foldl (fun t e => max t e.ts) t ∧ (∀ e ∈ l, e.ts ≤ l.foldl (fun t e => max t e.ts) t) ∧ (l.foldl (fun t e => max t e.ts) t = t ∨ ∃ e ∈ l, e.ts = l.foldl (fun t e => max t e.ts) t) := by
  induction l with
  | nil => intro t; exact ⟨Int.le_refl _, fun e he => by (cases he), .inl rfl⟩
  | cons e l ih =>
    intro t
    obtain ⟨h1, h2, h3⟩ := ih (max t e.ts)
    rw [List.foldl_cons]
    refine ⟨by omega, fun x hx => ?_, ?_⟩
    · rcases List.mem_cons.1 hx with rfl | hx
      · omega
      · exact h2 x hx
    · rcases h3 with h3 | ⟨x, hx, h3⟩
      · rcases Int.le_total t e.ts with h | h
        · exact .inr ⟨e, by simp, by omega⟩
        · exact .inl (by omega)
      · exact .inr ⟨x, by simp [hx], h3⟩
theorem fold_le {l l' : List Ent} (h : ∀ e ∈ l, ∃ e' ∈ l', e.ts ≤ e'.ts) : l.foldl (fun t e => max t e.ts) 0 ≤ l'.foldl (fun t e => max t e.ts) 0 := by
  obtain ⟨a1, a2, a3⟩ := fold_max l 0
  obtain ⟨b1, b2, b3⟩ := fold_max l' 0
  rcases a3 with h0 | ⟨e, he, h0⟩
  · omega
  · obtain ⟨e', he', hle⟩ := h e he
    have := b2 e' he'
    omega

theorem Behind.top_eq (h : Behind s clock clock' mj low m b M N) : topOf s clock' M = topOf s clock' N := by
  rw [topOf_eq _ _ _ h.oM, topOf_eq _ _ _ h.oN]
  refine Int.le_antisymm (fold_le fun e he => ?_) (fold_le fun e he => ?_)
  · obtain ⟨heM, hc⟩ := List.mem_filter.1 he
    have hc : counted s clock' M e := by simpa using hc
    -- the greatest of its column
    obtain ⟨g, hg, ⟨gc, gm⟩, hkg, hmx⟩ := exists_max (A := fun x => counted s clock' M x ∧ mates x e) heM ⟨hc, .refl e⟩
    have h0 : above s clock' M g = 0 := by
      unfold above
      exact count_none (A := fun x => counted s clock' M x ∧ mates x g ∧ g.ts < x.ts) fun x hx ⟨a, b, c⟩ => by
        have := hmx x hx ⟨a, b.trans gm⟩; omega
    obtain ⟨y, hy, hcy, hym, hyt⟩ := h.toN hg gc (by have := h.max g hg; omega)
    exact ⟨y, List.mem_filter.2 ⟨hy, by simp [hcy]⟩, by omega⟩
  · obtain ⟨heN, hc⟩ := List.mem_filter.1 he
    obtain ⟨y, hy, hcy, hym, hyt⟩ := h.toM heN (by simpa using hc)
    exact ⟨y, List.mem_filter.2 ⟨hy, by simp [hcy]⟩, by omega⟩
end
end Go.Rt

namespace Go.Rt
open Go Go.Sx Classical

section
variable {s : List Fml} {clock clock' low0 low : Int} {m b M N : List Ent}

theorem form_not {m : List Ent} {e : Ent} (h : ¬ ver e) : form m e = e := by
  rcases form_cases m e with ⟨h1, _⟩ | ⟨_, h1, _⟩
  · exact h1
  · exact absurd h1 h

/-- what stands in N comes from M -/
theorem Behind.src (h : Behind s clock clock' false low0 m b M N) {z : Ent} (hz : z ∈ N) : ∃ w ∈ M, Like z w := by
  rcases (h.mN z).1 hz with hz | hz
  · obtain ⟨y, hy, _, rfl⟩ := mem_T.1 hz
    exact ⟨y, h.sub y hy, form_like m y⟩
  · exact ⟨z, h.subb z hz, .refl z⟩

theorem Behind.aboveN (h : Behind s clock clock' false low0 m b M N) {e z : Ent} (hg : mates z e) (ht : z.ts = e.ts) : above s clock' N z ≤ above s clock' M e :=
  above_le h.oN fun x hx hcx hmt hlt => by
    obtain ⟨y, hy, hcy, hym, hyt⟩ := h.toM hx hcx
    exact ⟨y, hy, hcy, (hym.trans hmt).trans hg, by omega, hyt⟩

theorem Behind.keep_ver (h : Behind s clock clock' false low0 m b M N) {y : Ent} (hy : y ∈ M) (hc : counted s clock' M y) (hab : (above s clock' M y : Int) < (famAt s y.fam).max) :
    ∃ z ∈ N, counted s clock' N z ∧ (above s clock' N z : Int) < (famAt s z.fam).max ∧ grp z y ∧ form N z = form M y := by
  obtain ⟨z', hz', hcz, hmz, htz⟩ := h.toN hy hc hab
  have hgz : grp z' y := ⟨hcz.1.1, hc.1.1, hmz, htz⟩
  have hz : ∃ z ∈ N, Like z y ∧ (z = y ∨ z = hsk y ∧ (y.kind = 2 ∨ y.kind = 3)) := by
    rcases (h.mM y).1 hy with hm | hb
    · have hout : ¬ isOut s clock m y := fun ho => hc.2.1 (out_later h.hc h.sub ho)
      have hle : above s clock m y ≤ above s clock' M y := above_more h.om h.sub (.refl y) rfl hc.2.1
      have hk : keeps s clock false low0 m y := (keeps_ver hc.1.1).2 ⟨⟨hc.1.1, fun x hx hg => hc.1.2 x (h.sub x hx) hg⟩, hout, by
        by_cases hl : Rt.lone m y
        · rw [if_pos hl]
        · rw [if_neg hl]; omega⟩
      refine ⟨form m y, h.keptN hm hk, form_like m y, ?_⟩
      rcases form_cases m y with ⟨h1, _⟩ | ⟨h1, _, _, h2⟩
      · exact .inl h1
      · exact .inr ⟨h1, h2⟩
    · exact ⟨y, h.subN y hb, .refl y, .inl rfl⟩
  obtain ⟨z, hzN, hl, hzf⟩ := hz
  have hgzz : grp z z' := ((hl.grps (.refl z')).2 hgz.symm)
  have h1 := hcz.1.2 z hzN hgzz
  obtain ⟨w, hw, hlw⟩ := h.src hz'
  have h2 := hc.1.2 w hw ((hlw.symm.grps (.refl y)).2 hgz)
  have e1 := hlw.seq
  have e2 := hl.seq
  have : z = z' := by
    by_cases he : z = z'
    · exact he
    · exact absurd (by omega) (pairwise_ne h.oN.seq hzN hz' he)
  subst this
  refine ⟨z, hzN, hcz, ?_, hgz, ?_⟩
  · have := h.aboveN hmz htz
    rw [hmz.1.1]; omega
  · have hvy := hc.1.1
    by_cases hk : y.kind = 2 ∨ y.kind = 3
    · have e3 : form M y = hsk y := by
        rcases form_cases M y with ⟨_, h4⟩ | ⟨h4, _⟩
        · exact absurd ⟨hvy, hc.2.2, hk⟩ h4
        · exact h4
      have e4 : form N z = hsk z := by
        rcases form_cases N z with ⟨_, h4⟩ | ⟨h4, _⟩
        · refine absurd ⟨hcz.1.1, hcz.2.2, ?_⟩ h4
          rcases hzf with rfl | ⟨rfl, _⟩
          · exact hk
          · exact .inl rfl
        · exact h4
      rw [e3, e4]
      rcases hzf with rfl | ⟨rfl, _⟩
      · rfl
      · rfl
    · have e5 : z = y := by
        rcases hzf with h5 | ⟨_, h5⟩
        · exact h5
        · exact absurd h5 hk
      subst e5
      have hn : ∀ (L : List Ent), form L z = z := fun L => by
        rcases form_cases L z with ⟨h4, _⟩ | ⟨_, _, _, h4⟩
        · exact h4
        · exact absurd h4 hk
      rw [hn, hn]

theorem Behind.top5N (h : Behind s clock clock' false low0 m b M N) {x : Ent} (hx : x ∈ M) (h5 : x.kind = 5) : ∃ g ∈ N, g.kind = 5 ∧ famOf g x ∧ (x.ts < g.ts ∨ x.ts = g.ts ∧ x.seq ≤ g.seq) := by
  rcases (h.mM x).1 hx with hm | hb
  · obtain ⟨g, hg, ⟨g5, gf⟩, hkg, hmx⟩ := exists_max (A := fun z => z.kind = 5 ∧ famOf z x) hm ⟨h5, .refl x⟩
    have hgk : keeps s clock false low0 m g := by
      unfold keeps; rw [if_pos g5]
      exact ⟨fun z hz hz5 hzf => hmx z hz ⟨hz5, hzf.trans gf⟩, fun h => by cases h.1⟩
    have := h.keptN hg hgk
    rw [form_not (fun h => h.2 g5)] at this
    exact ⟨g, this, g5, gf, hkg⟩
  · exact ⟨x, h.subN x hb, h5, .refl x, .inr ⟨rfl, Int.le_refl _⟩⟩
theorem Behind.in5 (h : Behind s clock clock' false low0 m b M N) {x : Ent} (hx : x ∈ N) (hv : ¬ ver x) : x ∈ M := by
  rcases (h.mN x).1 hx with hz | hz
  · obtain ⟨y, hy, _, e⟩ := mem_T.1 hz
    have : ¬ ver y := fun hvy => hv (by rw [e]; exact (form_like m y).ver.2 hvy)
    rw [form_not this] at e
    rw [e]; exact h.sub y hy
  · exact h.subb x hz
theorem Behind.top5_iff (h : Behind s clock clock' false low0 m b M N) {y : Ent} (h5 : y.kind = 5) : (y ∈ M ∧ top5 M y) ↔ (y ∈ N ∧ top5 N y) := by
  have hnv : ¬ ver y := fun h => h.2 h5
  constructor
  · intro ⟨hy, ht⟩
    refine ⟨?_, fun x hx x5 xf => ht x (h.in5 hx fun h => h.2 x5) x5 xf⟩
    rcases (h.mM y).1 hy with hm | hb
    · have hk : keeps s clock false low0 m y := by
        unfold keeps; rw [if_pos h5]
        exact ⟨fun z hz hz5 hzf => ht z (h.sub z hz) hz5 hzf, fun h => by cases h.1⟩
      have := h.keptN hm hk
      rwa [form_not hnv] at this
    · exact h.subN y hb
  · intro ⟨hy, ht⟩
    refine ⟨h.in5 hy hnv, fun x hx x5 xf => ?_⟩
    obtain ⟨g, hg, g5, gf, hle⟩ := h.top5N hx x5
    have := ht g hg g5 (gf.trans xf)
    omega
theorem Behind.top4_iff (h : Behind s clock clock' false low0 m b M N) {y : Ent} (h4 : y.kind = 4) : (y ∈ M ∧ top4 M y) ↔ (y ∈ N ∧ top4 N y) := by
  have hnv : ¬ ver y := fun h => h.1 h4
  constructor
  · intro ⟨hy, ht4, ht5⟩
    refine ⟨?_, fun x hx x4 xm => ht4 x (h.in5 hx fun h => h.1 x4) x4 xm, fun x hx x5 xf => ht5 x (h.in5 hx fun h => h.2 x5) x5 xf⟩
    rcases (h.mM y).1 hy with hm | hb
    · have hk : keeps s clock false low0 m y := by
        unfold keeps; rw [if_neg (by omega), if_pos h4]
        exact ⟨⟨fun z hz hz4 hzm => ht4 z (h.sub z hz) hz4 hzm, fun z hz hz5 hzf => ht5 z (h.sub z hz) hz5 hzf⟩, fun h => by cases h.1⟩
      have := h.keptN hm hk
      rwa [form_not hnv] at this
    · exact h.subN y hb
  · intro ⟨hy, ht4, ht5⟩
    have t5 : ∀ x ∈ M, x.kind = 5 → famOf x y → x.ts < y.ts := fun x hx x5 xf => by
      obtain ⟨g, hg, g5, gf, hle⟩ := h.top5N hx x5
      have := ht5 g hg g5 (gf.trans xf)
      omega
    refine ⟨h.in5 hy hnv, fun x hx x4 xm => ?_, t5⟩
    rcases (h.mM x).1 hx with hm | hb
    · obtain ⟨g, hg, ⟨g4, gm⟩, hkg, hmx⟩ := exists_max (A := fun z => z.kind = 4 ∧ mates z x) hm ⟨x4, .refl x⟩
      by_cases hz : ∃ z ∈ m, z.kind = 5 ∧ famOf z g ∧ g.ts ≤ z.ts
      · obtain ⟨z, hz, z5, zf, zt⟩ := hz
        have := t5 z (h.sub z hz) z5 (zf.trans (gm.trans xm).1)
        omega
      · have hgk : keeps s clock false low0 m g := by
          unfold keeps; rw [if_neg (by omega), if_pos g4]
          refine ⟨⟨fun z hz' hz4 hzm => hmx z hz' ⟨hz4, hzm.trans gm⟩, fun z hz' hz5 hzf => ?_⟩, fun h => by cases h.1⟩
          by_cases hlt : z.ts < g.ts
          · exact hlt
          · exact absurd ⟨z, hz', hz5, hzf, by omega⟩ hz
        have hgN := h.keptN hg hgk
        rw [form_not (fun h => h.1 g4)] at hgN
        have := ht4 g hgN g4 (gm.trans xm)
        omega
    · exact ht4 x (h.subN x hb) x4 xm

/-- THE MAJOR SQUASH OF WHAT IS LEFT -/
theorem Behind.major_eq (h : Behind s clock clock' false low0 m b M N) (low : Int) : M.flatMap (keepD s clock' true low M) = N.flatMap (keepD s clock' true low N) := by
  refine order_ext (fun x => ?_) (inOrder_T h.oM).srt (inOrder_T h.oN).srt
  have kv : ∀ {L : List Ent} {y : Ent}, ver y → (keeps s clock' true low L y ↔ counted s clock' L y ∧ (above s clock' L y : Int) < (famAt s y.fam).max) := fun {L y} hv => by
    rw [keeps_ver hv]
    by_cases hl : Rt.lone L y
    · rw [if_pos hl]
      exact ⟨fun h => absurd h.2.2 (by decide), fun h => absurd hl h.1.2.2⟩
    · rw [if_neg hl]
      exact ⟨fun h => ⟨⟨h.1, h.2.1, hl⟩, h.2.2⟩, fun h => ⟨h.1.1, h.1.2.1, h.2⟩⟩
  rw [mem_T, mem_T]
  constructor
  · rintro ⟨y, hy, hk, rfl⟩
    by_cases h5 : y.kind = 5
    · unfold keeps at hk; rw [if_pos h5] at hk
      obtain ⟨hyN, ht⟩ := (h.top5_iff h5).1 ⟨hy, hk.1⟩
      refine ⟨y, hyN, ?_, by rw [form_not (fun h => h.2 h5), form_not (fun h => h.2 h5)]⟩
      unfold keeps; rw [if_pos h5]; exact ⟨ht, hk.2⟩
    · by_cases h4 : y.kind = 4
      · unfold keeps at hk; rw [if_neg h5, if_pos h4] at hk
        obtain ⟨hyN, ht⟩ := (h.top4_iff h4).1 ⟨hy, hk.1⟩
        refine ⟨y, hyN, ?_, by rw [form_not (fun h => h.1 h4), form_not (fun h => h.1 h4)]⟩
        unfold keeps; rw [if_neg h5, if_pos h4]; exact ⟨ht, hk.2⟩
      · have hv : ver y := ⟨h4, h5⟩
        obtain ⟨hc, hab⟩ := (kv hv).1 hk
        obtain ⟨z, hz, hcz, haz, _, hf⟩ := h.keep_ver hy hc hab
        exact ⟨z, hz, (kv hcz.1.1).2 ⟨hcz, haz⟩, hf.symm⟩
  · rintro ⟨z, hz, hk, rfl⟩
    by_cases h5 : z.kind = 5
    · unfold keeps at hk; rw [if_pos h5] at hk
      obtain ⟨hyM, ht⟩ := (h.top5_iff h5).2 ⟨hz, hk.1⟩
      refine ⟨z, hyM, ?_, by rw [form_not (fun h => h.2 h5), form_not (fun h => h.2 h5)]⟩
      unfold keeps; rw [if_pos h5]; exact ⟨ht, hk.2⟩
    · by_cases h4 : z.kind = 4
      · unfold keeps at hk; rw [if_neg h5, if_pos h4] at hk
        obtain ⟨hyM, ht⟩ := (h.top4_iff h4).2 ⟨hz, hk.1⟩
        refine ⟨z, hyM, ?_, by rw [form_not (fun h => h.1 h4), form_not (fun h => h.1 h4)]⟩
        unfold keeps; rw [if_neg h5, if_pos h4]; exact ⟨ht, hk.2⟩
      · have hv : ver z := ⟨h4, h5⟩
        obtain ⟨hc, hab⟩ := (kv hv).1 hk
        obtain ⟨y, hy, hcy, hym, hyt⟩ := h.toM hz hc
        have haby : (above s clock' M y : Int) < (famAt s y.fam).max := by
          by_cases h9 : (above s clock' M y : Int) < (famAt s y.fam).max
          · exact h9
          · exfalso
            have hK : (famAt s y.fam).max.toNat ≤ above s clock' M y := by omega
            have hmax := h.max y hy
            have := above_ge (clock' := clock') (m' := N) (e' := z) h.oM hK fun x hx hcx hmt hlt habx => by
              obtain ⟨u, hu, hcu, hum, hut⟩ := h.toN hx hcx (by rw [hmt.1.1]; omega)
              exact ⟨u, hu, hcu, (hum.trans hmt).trans hym, by omega, hut⟩
            rw [hym.1.1] at hK this
            omega
        obtain ⟨z', hz', hcz', haz', hg', hf⟩ := h.keep_ver hy hcy haby
        have hgz : grp z' z := hg'.trans ⟨hcy.1.1, hv, hym, hyt⟩
        have : z' = z := first_uniq h.oN hz' hz hcz'.1 hc.1 hgz
        subst this
        exact ⟨y, hy, (kv hcy.1.1).2 ⟨hcy, haby⟩, hf⟩
end
end Go.Rt

namespace Go.Proofs.Ytijhkfhflpmajaa
open Go Go.Sx Go.Rt

theorem squash_seqs {s : List Fml} {clock low : Int} {mj : Bool} {a : List Ent} : ∀ x ∈ (squashE s clock mj low a).1, ∃ y ∈ a, x.seq = y.seq := by
  by_cases h : (prepE s clock [low] 1 a).2 = 0
  · rw [squash_ok h]
    intro x hx
    obtain ⟨y, hy, _, rfl⟩ := mem_T.1 hx
    exact ⟨y, ((prep_ok h).2.2.2 y).1 hy, (form_like _ y).seq⟩
  · unfold squashE; rw [if_pos h]; intro x hx; cases hx

/-- a part is squashed: the major squash is the same -/
theorem replace {s : List Fml} {clock low at' : Int} {a b L : List Ent} (hL : (prepE s clock [low] 1 L).2 = 0) (hLm : ∀ x, x ∈ L ↔ x ∈ a ∨ x ∈ b) (hap : ∀ x ∈ a, ∀ y ∈ b, x.seq ≠ y.seq) (h0 : 0 ≤ at') (hc : at' ≤ clock) :
    (squashE s at' false 0 a).2 = 0 ∧ ∀ N : List Ent, (∀ x, x ∈ N ↔ x ∈ (squashE s at' false 0 a).1 ∨ x ∈ b) → (prepE s clock [low] 1 N).2 = 0 ∧ squashE s clock true low N = squashE s clock true low L := by
  obtain ⟨oM, cM, bM, mM⟩ := prep_ok hL
  obtain ⟨p1, p2, p3⟩ := prep_zero_iff.1 hL
  have hA : (prepE s at' [0] 1 a).2 = 0 := by
    obtain ⟨q1, q2, q3⟩ := boundsE_iff.1 bM
    refine prep_zero_iff.2 ⟨boundsE_iff.2 ⟨q1, ?_, rfl⟩, fun e he => p2 e ((hLm e).2 (.inl he)), fun x hx y hy => p3 x ((hLm x).2 (.inl hx)) y ((hLm y).2 (.inl hy))⟩
    simp only [timesBad, List.any_cons, List.any_nil, Bool.or_false, Bool.or_eq_false_iff] at q2 ⊢
    have := bout_false q2.1
    exact ⟨by simp [bout]; omega, rfl⟩
  refine ⟨by rw [squash_ok hA], fun N hN => ?_⟩
  rw [squash_ok hA] at hN
  simp only at hN
  obtain ⟨om, cm, bm, mm⟩ := prep_ok hA
  generalize (prepE s at' [0] 1 a).1 = m at *
  have oT : InOrder (m.flatMap (keepD s at' false 0 m)) := inOrder_T om
  have hcT : ∀ e ∈ m.flatMap (keepD s at' false 0 m), checkedE s e = 0 ∧ ∃ y ∈ a, e.seq = y.seq := fun e he => by
    obtain ⟨y, hy, _, rfl⟩ := mem_T.1 he
    exact ⟨checked_form (cm y hy), y, (mm y).1 hy, (form_like m y).seq⟩
  have hN0 : (prepE s clock [low] 1 N).2 = 0 := by
    refine prep_zero_iff.2 ⟨bM, fun e he => ?_, fun x hx y hy hs => ?_⟩
    · rcases (hN e).1 he with h | h
      · exact (hcT e h).1
      · exact p2 e ((hLm e).2 (.inr h))
    · rcases (hN x).1 hx with h1 | h1 <;> rcases (hN y).1 hy with h2 | h2
      · by_cases he : x = y
        · exact he
        · exact absurd hs (pairwise_ne oT.seq h1 h2 he)
      · obtain ⟨z, hz, e⟩ := (hcT x h1).2
        exact absurd (e.symm.trans hs) (hap z hz y h2)
      · obtain ⟨z, hz, e⟩ := (hcT y h2).2
        exact absurd (e.symm.trans hs.symm) (hap z hz x h1)
      · exact p3 x ((hLm x).2 (.inr h1)) y ((hLm y).2 (.inr h2)) hs
  refine ⟨hN0, ?_⟩
  obtain ⟨oN, _, _, mN⟩ := prep_ok hN0
  have hB : Behind s at' clock false 0 m b (prepE s clock [low] 1 L).1 (prepE s clock [low] 1 N).1 :=
    { om := om, oM := oM, oN := oN
      mM := fun x => by rw [mM, hLm, mm]
      mN := fun x => by rw [mN, hN]
      hc := hc
      ttl := fun e he => (ttl_of (boundsE_iff.1 bM).1 _ (famAt_mem (cM e he))).1
      max := fun e he => (max_of (boundsE_iff.1 bM).1 _ (famAt_mem (cM e he))).1
      kind := fun e he => bout_false ((chk_iff e).1 (checkedE_zero (cM e he)).1).kind
      low := fun h => by cases h
      seq := fun h => by cases h }
  rw [squash_ok hN0, squash_ok hL, hB.major_eq low]

theorem mem_partL {l : List Ent} {parts : List Int} {p : Int} {x : Ent} : ∀ n, x ∈ partL l parts p n ↔ ∃ i, i < n ∧ keyOf parts i = p ∧ x = l.getD i default
  | 0 => by simp [partL]
  | n + 1 => by
    have ih := mem_partL (l := l) (parts := parts) (p := p) (x := x) n
    rw [partL]
    constructor
    · intro h
      split at h
      · rename_i hk
        rcases List.mem_append.1 h with h | h
        · obtain ⟨i, h1, h2, h3⟩ := ih.1 h; exact ⟨i, by omega, h2, h3⟩
        · exact ⟨n, by omega, hk, by simpa using h⟩
      · obtain ⟨i, h1, h2, h3⟩ := ih.1 h; exact ⟨i, by omega, h2, h3⟩
    · rintro ⟨i, h1, h2, h3⟩
      by_cases hi : i = n
      · subst hi; rw [if_pos h2]; simp [h3]
      · have := ih.2 ⟨i, by omega, h2, h3⟩
        split
        · simp [this]
        · exact this

theorem key_bnd (parts : List Int) (i : Nat) : 0 ≤ keyOf parts i ∧ keyOf parts i < 4 := by
  have gen : ∀ k : Nat, k ≤ 3 → IntKind.i64.wrap (k : Int) = k := fun k hk => w64 (by omega) (by omega)
  unfold keyOf
  split
  · have : intBits .and .i64 (parts.getD i default) 3 = (((BitVec.ofInt 64 (parts.getD i default)) &&& 3#64).toNat : Int) := by
      show IntKind.i64.wrap _ = _
      have h1 : ((BitVec.ofInt 64 (parts.getD i default)) &&& 3#64).toNat ≤ 3 := by
        rw [BitVec.toNat_and]; exact Nat.and_le_right
      exact gen _ h1
    rw [this]
    have h1 : ((BitVec.ofInt 64 (parts.getD i default)) &&& 3#64).toNat ≤ 3 := by
      rw [BitVec.toNat_and]; exact Nat.and_le_right
    omega
  · omega

open Classical in
theorem minorsB_true (s : List Fml) (clock low : Int) (l : List Ent) (parts earlier : List Int) : minorsB s clock low l parts earlier = true := by
  unfold minorsB
  by_cases h : (prepE s clock [low] 1 l).2 = 0
  · have hz : (squashE s clock true low l).2 = 0 := by rw [squash_ok h]
    rw [hz]
    simp only [bne_self_eq_false, cond_false]
    split
    · rename_i hdis
      -- those at unlike places have unlike Seqs
      have hlt : ∀ i j, i < j → j < l.length → (l.getD i default).seq ≠ (l.getD j default).seq := fun i j hij hj hs => by
        have h1 := hdis j hj
        unfold apartE at h1
        rw [List.all_eq_true] at h1
        have h2 := h1 (l.getD i default) (by
          rw [List.mem_take_iff_getElem]
          exact ⟨i, by omega, by simp [List.getD, List.getElem?_eq_getElem (show i < l.length by omega)]⟩)
        simp [hs] at h2
        exact h2 (by simpa using hs)
      have hpos : ∀ i j, i < l.length → j < l.length → (l.getD i default).seq = (l.getD j default).seq → i = j := fun i j hi hj hs => by
        rcases Nat.lt_trichotomy i j with h1 | h1 | h1
        · exact absurd hs (hlt i j h1 hj)
        · exact h1
        · exact absurd hs.symm (hlt j i h1 hi)
      have hD : ∀ (p q : Nat), p ≠ q → ∀ x ∈ partL l parts p l.length, ∀ y ∈ partL l parts q l.length, x.seq ≠ y.seq := fun p q hpq x hx y hy hs => by
        obtain ⟨i, hi, hk, rfl⟩ := (mem_partL _).1 hx
        obtain ⟨j, hj, hk', rfl⟩ := (mem_partL _).1 hy
        have := hpos i j hi hj hs
        subst this
        omega
      have hU : ∀ x, x ∈ l ↔ ∃ q, q < 4 ∧ x ∈ partL l parts (q : Nat) l.length := fun x => by
        constructor
        · intro hx
          obtain ⟨i, hi, rfl⟩ := List.getElem_of_mem hx
          obtain ⟨h1, h2⟩ := key_bnd parts i
          exact ⟨(keyOf parts i).toNat, by omega, (mem_partL _).2 ⟨i, hi, by omega, by simp [List.getD, List.getElem?_eq_getElem hi]⟩⟩
        · rintro ⟨q, _, hx⟩
          obtain ⟨i, hi, _, rfl⟩ := (mem_partL _).1 hx
          simp [List.getD, List.getElem?_eq_getElem hi]
      have hat : ∀ p, 0 ≤ atE clock earlier p ∧ atE clock earlier p ≤ clock := fun p => by
        have hcl : 0 ≤ clock := by
          have h2 := (boundsE_iff.1 (prep_ok h).2.2.1).2.1
          simp only [timesBad, List.any_cons, Bool.or_eq_false_iff] at h2
          have := bout_false h2.1
          omega
        unfold atE
        split
        · omega
        · omega
      have key : ∀ p, p ≤ 4 → ∃ left, mmLeft s clock l parts earlier p = some left ∧ (∀ x ∈ left, ∃ q, q < p ∧ ∃ y ∈ partL l parts (q : Nat) l.length, x.seq = y.seq) ∧
          ∀ N : List Ent, (∀ x, x ∈ N ↔ x ∈ left ∨ ∃ q, p ≤ q ∧ q < 4 ∧ x ∈ partL l parts (q : Nat) l.length) → (prepE s clock [low] 1 N).2 = 0 ∧ squashE s clock true low N = squashE s clock true low l := by
        intro p
        induction p with
        | zero =>
          intro _
          refine ⟨[], rfl, fun x hx => by (cases hx), fun N hN => ?_⟩
          have hNl : ∀ x, x ∈ N ↔ x ∈ l := fun x => by
            rw [hN, hU]
            exact ⟨fun h => h.elim (fun h => by cases h) fun ⟨q, _, h1, h2⟩ => ⟨q, h1, h2⟩, fun ⟨q, h1, h2⟩ => .inr ⟨q, Nat.zero_le _, h1, h2⟩⟩
          have hN0 : (prepE s clock [low] 1 N).2 = 0 := by
            obtain ⟨p1, p2, p3⟩ := prep_zero_iff.1 h
            exact prep_zero_iff.2 ⟨p1, fun e he => p2 e ((hNl e).1 he), fun x hx y hy => p3 x ((hNl x).1 hx) y ((hNl y).1 hy)⟩
          refine ⟨hN0, ?_⟩
          obtain ⟨oM, _, _, mM⟩ := prep_ok h
          obtain ⟨oN, _, _, mN⟩ := prep_ok hN0
          have : (prepE s clock [low] 1 N).1 = (prepE s clock [low] 1 l).1 := order_ext (fun x => by rw [mN, mM, hNl]) oN.srt oM.srt
          rw [squash_ok hN0, squash_ok h, this]
        | succ p ih =>
          intro hp
          obtain ⟨left, hl, hsq, hst⟩ := ih (by omega)
          -- what is still to come
          let rest := l.filter fun x => decide (∃ q, p < q ∧ q < 4 ∧ x ∈ partL l parts (q : Nat) l.length)
          have hrest : ∀ x, x ∈ rest ↔ ∃ q, p < q ∧ q < 4 ∧ x ∈ partL l parts (q : Nat) l.length := fun x => by
            show x ∈ l.filter _ ↔ _
            rw [List.mem_filter, decide_eq_true_eq]
            exact ⟨fun h => h.2, fun h => ⟨(hU x).2 (by obtain ⟨q, _, h1, h2⟩ := h; exact ⟨q, h1, h2⟩), h⟩⟩
          obtain ⟨z1, z2⟩ := hst (partL l parts (p : Nat) l.length ++ (left ++ rest)) fun x => by
            rw [List.mem_append, List.mem_append, hrest]
            constructor
            · rintro (h | h | ⟨q, h1, h2, h3⟩)
              · exact .inr ⟨p, Nat.le_refl _, by omega, h⟩
              · exact .inl h
              · exact .inr ⟨q, by omega, h2, h3⟩
            · rintro (h | ⟨q, h1, h2, h3⟩)
              · exact .inr (.inl h)
              · by_cases hq : q = p
                · subst hq; exact .inl h3
                · exact .inr (.inr ⟨q, by omega, h2, h3⟩)
          obtain ⟨t1, t2⟩ := replace (a := partL l parts (p : Nat) l.length) (b := left ++ rest) (at' := atE clock earlier p) z1 (fun x => List.mem_append) (fun x hx y hy => by
            rcases List.mem_append.1 hy with h | h
            · obtain ⟨q, hq, w, hw, e⟩ := hsq y h
              rw [e]; exact hD p q (by omega) x hx w hw
            · obtain ⟨q, h1, _, h3⟩ := (hrest y).1 h
              exact hD p q (by omega) x hx y h3) (hat p).1 (hat p).2
          have hT : ∀ x ∈ (squashE s (atE clock earlier p) false 0 (partL l parts (p : Nat) l.length)).1, ∃ y ∈ partL l parts (p : Nat) l.length, x.seq = y.seq := squash_seqs
          rw [mmLeft, hl, Option.bind_some, mmStep, if_neg (by simp [t1])]
          generalize (squashE s (atE clock earlier p) false 0 (partL l parts (p : Nat) l.length)).1 = T at *
          have hsT : ∀ x ∈ left ++ T, ∃ q, q < p + 1 ∧ ∃ y ∈ partL l parts (q : Nat) l.length, x.seq = y.seq := fun x hx => by
            rcases List.mem_append.1 hx with h | h
            · obtain ⟨q, hq, w⟩ := hsq x h; exact ⟨q, by omega, w⟩
            · exact ⟨p, by omega, hT x h⟩
          have hall : ∀ N : List Ent, (∀ x, x ∈ N ↔ x ∈ left ++ T ∨ x ∈ rest) → (prepE s clock [low] 1 N).2 = 0 ∧ squashE s clock true low N = squashE s clock true low l := fun N hN => by
            obtain ⟨w1, w2⟩ := t2 N fun x => by
              rw [hN, List.mem_append, List.mem_append]
              constructor
              · rintro ((h | h) | h)
                · exact .inr (.inl h)
                · exact .inl h
                · exact .inr (.inr h)
              · rintro (h | h | h)
                · exact .inl (.inr h)
                · exact .inl (.inl h)
                · exact .inr h
            exact ⟨w1, w2.trans z2⟩
          by_cases hp2 : p = 2
          · rw [if_pos hp2]
            obtain ⟨u1, u2⟩ := hall ((left ++ T) ++ rest) fun x => List.mem_append
            obtain ⟨v1, v2⟩ := replace (a := left ++ T) (b := rest) (at' := atE clock earlier p) u1 (fun x => List.mem_append) (fun x hx y hy => by
              obtain ⟨q, hq, w, hw, e⟩ := hsT x hx
              obtain ⟨q', h1, _, h3⟩ := (hrest y).1 hy
              rw [e]; exact hD q q' (by omega) w hw y h3) (hat p).1 (hat p).2
            rw [if_neg (by simp [v1])]
            refine ⟨_, rfl, fun x hx => ?_, fun N hN => ?_⟩
            · obtain ⟨y, hy, e⟩ := squash_seqs x hx
              obtain ⟨q, hq, w, hw, e'⟩ := hsT y hy
              exact ⟨q, hq, w, hw, e.trans e'⟩
            · obtain ⟨w1, w2⟩ := v2 N fun x => by
                rw [hN, hrest]
                exact ⟨fun h => h.elim .inl fun ⟨q, h1, h2⟩ => .inr ⟨q, by omega, h2⟩, fun h => h.elim .inl fun ⟨q, h1, h2⟩ => .inr ⟨q, by omega, h2⟩⟩
              exact ⟨w1, w2.trans u2⟩
          · rw [if_neg hp2]
            refine ⟨_, rfl, hsT, fun N hN => hall N fun x => ?_⟩
            rw [hN, hrest]
            exact ⟨fun h => h.elim .inl fun ⟨q, h1, h2⟩ => .inr ⟨q, by omega, h2⟩, fun h => h.elim .inl fun ⟨q, h1, h2⟩ => .inr ⟨q, by omega, h2⟩⟩
      obtain ⟨left, hl, _, hst⟩ := key 4 (by omega)
      obtain ⟨_, h2⟩ := hst left fun x => ⟨.inl, fun h => h.elim id fun ⟨q, h1, h2, _⟩ => by omega⟩
      rw [hl, mmEnd, h2, hz]
      simp
    · rfl
  · have : squashE s clock true low l = ([], (prepE s clock [low] 1 l).2) := by unfold squashE; rw [if_pos h]
    rw [this]
    have h9 : ((prepE s clock [low] 1 l).2 != 0) = true := by simpa using h
    simp only [h9, cond_true]
    rfl
end Go.Proofs.Ytijhkfhflpmajaa

