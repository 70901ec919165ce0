/- Own layer: the walk through the law Own. Of the program; no condition. -/
import Derived.Test.YtijhkfhflpmajaaOH
import Derived.Test.YtijhkfhflpmajaaOG
import Derived.Test.YtijhkfhflpmajaaOB
import Derived.ChangeArms
import Derived.OpenShut
import Derived.ChangeOld
import Derived.JoinedCond
import Derived.WalkKit
import Derived.ProofKit
import Derived.Test.YtijhkfhflpmajaaRows
set_option linter.unusedSimpArgs false
set_option linter.unusedVariables false
namespace Go.Proofs.Ytijhkfhflpmajaa
open Go Go.Sx Go.Rt Go.Proofs

/-- what each round's five calls answer -/
def ownE (s : List Fml) (clock t vn : Int) (l : List Ent) : List (List Ent) :=
  [(sortE l).1, (visE s clock l).1, (readE s clock t vn l).1, (squashE s clock false 0 l).1, (squashE s clock true t l).1]
theorem ownE_ok (s : List Fml) (clock t vn : Int) (l : List Ent) (hl : l.length ≤ 10000000) : ∀ E ∈ ownE s clock t vn l, (∀ e ∈ E, smallE e) ∧ E.length ≤ 20000001 := by
  intro E hE
  simp only [ownE, List.mem_cons, List.not_mem_nil, or_false] at hE
  rcases hE with rfl | rfl | rfl | rfl | rfl
  · exact ⟨(sortE_S l).1, by have := (sortE_S l).2; omega⟩
  · exact ⟨readE_S s clock _ _ l, by have := readE_len s clock 1099511627776 16 l; show (readE s clock 1099511627776 16 l).1.length ≤ _; omega⟩
  · exact ⟨readE_S s clock _ _ l, by have := readE_len s clock t vn l; omega⟩
  · exact ⟨squashE_S s clock _ _ l, by have := squashE_length s clock false 0 l; omega⟩
  · exact ⟨squashE_S s clock _ _ l, by have := squashE_length s clock true t l; omega⟩
theorem ownE_len (s : List Fml) (clock t vn : Int) (l : List Ent) : (ownE s clock t vn l).length = 5 := rfl
def as5 (a b c d e : An) : List An := [a, b, c, d, e]

set_option maxRecDepth 100000 in
set_option maxHeartbeats 3200000 in
theorem c_law_RetainOwn (s : List Fml) (clock t vn : Int) (l : List Ent) (hl : l.length ≤ 10000000) (hf : ∀ e ∈ l, e.fits) (H : Heap) (n : Nat) : Ret Try.prog 9 [schAV s, .int .i64 clock, .int .i64 t, .int .i64 vn, entsAV l] H n (.bool true) H n := by
  have hEl := ownE_len s clock t vn l
  have hEok := ownE_ok s clock t vn l hl
  refine Ret.fin ?_
  refine acalls_of_awp Try.func9 rfl Try.ntmps9 (congrArg Array.toList Try.results9) (by simp) ?_
  simp only [go_sem]
  refine awp_rq zs [1, 2, 3, 4, 5] ?_
  refine awp_reg zs [1, 2, 3, 4, 5, 11] fun K hK => ?_
  try simp only [go_sem, ↓reduceIte, Nat.reduceEqDiff, Nat.reduceLT, Nat.reduceSub, Nat.reduceAdd, Nat.reduceMul]
  repeat refine peel ?_
  refine callK_use Try.func11 rfl rfl rfl ((c_law_started _ _)) ?_
  try simp only [go_sem, ↓reduceIte, Nat.reduceEqDiff, Nat.reduceLT, Nat.reduceSub, Nat.reduceAdd, Nat.reduceMul]
  repeat refine peel ?_
  refine hK _ _ _ ?_; clear hK K
  refine awp_reg zs [1, 2, 3, 4, 5, 11, 12] fun K hK => ?_
  try simp only [go_sem, ↓reduceIte, Nat.reduceEqDiff, Nat.reduceLT, Nat.reduceSub, Nat.reduceAdd, Nat.reduceMul]
  repeat refine peel ?_
  refine callK_use Try.func22 rfl rfl rfl ((c_ref3_CloneAll l (by omega) hf _ _)) ?_
  try simp only [go_sem, ↓reduceIte, Nat.reduceEqDiff, Nat.reduceLT, Nat.reduceSub, Nat.reduceAdd, Nat.reduceMul]
  repeat refine peel ?_
  refine hK _ _ _ ?_; clear hK K
  refine awp_rq zs [1, 2, 3, 4, 5, 11, 12, 13] ?_
  refine awp_adopt_obj (n + 1) 1 (els' := [.agg [.osl (n + 2) 0 0 0, .nilsl, .nilsl, .nilsl, .nilsl]]) (Heap.put_same _ _ _) ⟨Adp.agg ⟨Adp.nilsl _, .refl _ _, .refl _ _, .refl _ _, .refl _ _, trivial⟩, trivial⟩ ?_
  refine awp_adopt_obj (n + 1) 1 (els' := [.agg [.osl (n + 2) 0 0 0, .osl (n + 3) 0 0 0, .nilsl, .nilsl, .nilsl]]) (Heap.put_same _ _ _) ⟨Adp.agg ⟨.refl _ _, Adp.nilsl _, .refl _ _, .refl _ _, .refl _ _, trivial⟩, trivial⟩ ?_
  refine awp_adopt_obj (n + 1) 1 (els' := [.agg [.osl (n + 2) 0 0 0, .osl (n + 3) 0 0 0, .osl (n + 4) 0 0 0, .nilsl, .nilsl]]) (Heap.put_same _ _ _) ⟨Adp.agg ⟨.refl _ _, .refl _ _, Adp.nilsl _, .refl _ _, .refl _ _, trivial⟩, trivial⟩ ?_
  refine awp_adopt_obj (n + 1) 1 (els' := [.agg [.osl (n + 2) 0 0 0, .osl (n + 3) 0 0 0, .osl (n + 4) 0 0 0, .osl (n + 5) 0 0 0, .nilsl]]) (Heap.put_same _ _ _) ⟨Adp.agg ⟨.refl _ _, .refl _ _, .refl _ _, Adp.nilsl _, .refl _ _, trivial⟩, trivial⟩ ?_
  refine awp_rq zs [1, 2, 3, 4, 5, 11, 12, 13, 14] ?_
  refine awp_seq_k fun K1 hK1 => ?_
  refine awp_adopt_tmp 14 1 rfl ?_
  refine awp_rq zs [1, 2, 3, 4, 5, 11, 12, 13, 14, 15] ?_
  refine awp_block ?_
  -- loop 0: head [1, 2, 3, 4, 5, 11, 12, 13, 14, 15]
  refine awp_loop (fun T' H' n' => ∃ (r : Nat) (tg : Nat → Tg) (A : BkA) (bs es : List BS) (vf : Nat), r ≤ 3 ∧ T' = tl [(1, .int .i64 clock), (2, .int .i64 t), (3, .int .i64 vn), (4, .sl 7 (l.map entAV)), (5, .loc n 0 0 0 []), (11, .bool true), (12, .sl 7 (l.map entAV)), (13, .loc (n + 1) 0 0 0 []), (14, .osl (n + 6) vf 0 (if r = 0 then 0 else 5)), (15, .int .i64 r)] ∧ A.kb = n + 1 ∧ n + 7 ≤ n' ∧ H' n = some (.arr 0 1 [schAV s]) ∧ Bk H' n' tg A bs bs.length bs.length es es.length es.length ∧ H' (n + 1) = some (.arr 0 5 [.agg (bookL A bs bs.length es es.length)]) ∧ (∀ k, k ≤ n → tg k = .free) ∧ tg (n + 6) = .free ∧ H' (n + 6) = some (.arr vf 1 (if r = 0 then [] else (ownE s clock t vn l).map entsAV)) ∧ (∀ k, k < n → H' k = H k) ∧ bs.length ≤ r * 300000015 + 0 ∧ es.length = 5 * r) (fun T' _ _ => 3 - iv (T' 15)) ?_ ?_
  ·skip
   refine ⟨0, tg5 n, ⟨n + 1, n + 2, n + 3, n + 4, n + 5, 0, 0, 0, 0⟩, [], [], 0, by omega, rfl, rfl, by omega, by simp [Heap.put, Nat.add_assoc, schAV], Bk.init (by simp [Heap.put, Nat.add_assoc]) (by simp [Heap.put, Nat.add_assoc]) (by simp [Heap.put, Nat.add_assoc]) (by simp [Heap.put, Nat.add_assoc]) (by omega), by simp [Heap.put, Nat.add_assoc, bookL], fun k hk => tg5_free (.inl hk), tg5_free (.inr (by omega)), by simp [Heap.put, Nat.add_assoc], fun k hk => ?_, by simp, rfl⟩
   have h0 : k ≠ n := by omega
   have h1 : ∀ j, k ≠ n + j := fun j => by omega
   simp [Heap.put, Nat.add_assoc, h0, h1]
  intro T1 H1 n1
  rintro ⟨r, tg, A, bs, es, vf, hr, rfl, hkb, hn, hs1, hbk, hob, htl, htf, hfi, hrest, hbl, hel⟩
  refine awp_seq_k fun K2 hK2 => ?_
  refine awp_rq zs [1, 2, 3, 4, 5, 11, 12, 13, 14, 15, 34] ?_
  refine awp_cnd (fun hb => ?_) (fun hb => ?_)
  ·skip
   have hr3 : r < 3 := by have := of_decide_eq_true hb; omega
   refine awp_skip ?_
   try simp only [go_sem, ↓reduceIte, Nat.reduceEqDiff, Nat.reduceLT, Nat.reduceSub, Nat.reduceAdd, Nat.reduceMul]
   refine hK2 _ _ _ ?_
   first | clear hK2 K2 | skip
   refine awp_seq_k fun K3 hK3 => ?_
   refine awp_block ?_
   refine awp_reg zs [1, 2, 3, 4, 5, 11, 12, 13, 14, 15, 16] fun K hK => ?_
   try simp only [go_sem, ↓reduceIte, Nat.reduceEqDiff, Nat.reduceLT, Nat.reduceSub, Nat.reduceAdd, Nat.reduceMul]
   repeat refine peel ?_
   refine callK_useK (args' := [entsAV l]) Try.func23 rfl rfl rfl (o_retain_Sort l (by omega) _ n1) ?_ ?_
   rotate_left
   · intro p H' n' h; obtain ⟨_, _, _, hx, _⟩ := h; cases hx
   rintro rr H2 n2 ⟨k1, v1, x1, hr2, he1, ho1, hn2, hl2⟩
   cases hr2
   have hs2 := (hl2 n (by omega)).trans hs1
   try simp only [go_sem, ↓reduceIte, Nat.reduceEqDiff, Nat.reduceLT, Nat.reduceSub, Nat.reduceAdd, Nat.reduceMul]
   repeat refine peel ?_
   refine hK _ _ _ ?_; clear hK K
   refine awp_reg zs [1, 2, 3, 4, 5, 11, 12, 13, 14, 15, 16, 18] fun K hK => ?_
   try simp only [go_sem, ↓reduceIte, Nat.reduceEqDiff, Nat.reduceLT, Nat.reduceSub, Nat.reduceAdd, Nat.reduceMul, hs2]
   repeat refine peel ?_
   refine callK_useK (args' := [schAV s, .int .i64 clock, entsAV l]) Try.func19 rfl rfl rfl (o_retain_Vis s clock l (by omega) _ n2) ?_ ?_
   rotate_left
   · intro p H' n' h; obtain ⟨_, _, _, hx, _⟩ := h; cases hx
   rintro rr H3 n3 ⟨k2, v2, x2, hr2, he2, ho2, hn3, hl3⟩
   cases hr2
   have hs3 := (hl3 n (by omega)).trans hs2
   try simp only [go_sem, ↓reduceIte, Nat.reduceEqDiff, Nat.reduceLT, Nat.reduceSub, Nat.reduceAdd, Nat.reduceMul, hs2]
   repeat refine peel ?_
   refine hK _ _ _ ?_; clear hK K
   refine awp_reg zs [1, 2, 3, 4, 5, 11, 12, 13, 14, 15, 16, 18, 20] fun K hK => ?_
   try simp only [go_sem, ↓reduceIte, Nat.reduceEqDiff, Nat.reduceLT, Nat.reduceSub, Nat.reduceAdd, Nat.reduceMul, hs3]
   repeat refine peel ?_
   refine callK_useK (args' := [schAV s, .int .i64 clock, .int .i64 t, .int .i64 vn, entsAV l]) Try.func24 rfl rfl rfl (o_retain_Read s clock t vn l (by omega) _ n3) ?_ ?_
   rotate_left
   · intro p H' n' h; obtain ⟨_, _, _, hx, _⟩ := h; cases hx
   rintro rr H4 n4 ⟨k3, v3, x3, hr2, he3, ho3, hn4, hl4⟩
   cases hr2
   have hs4 := (hl4 n (by omega)).trans hs3
   try simp only [go_sem, ↓reduceIte, Nat.reduceEqDiff, Nat.reduceLT, Nat.reduceSub, Nat.reduceAdd, Nat.reduceMul, hs3]
   repeat refine peel ?_
   refine hK _ _ _ ?_; clear hK K
   refine awp_reg zs [1, 2, 3, 4, 5, 11, 12, 13, 14, 15, 16, 18, 20, 22] fun K hK => ?_
   try simp only [go_sem, ↓reduceIte, Nat.reduceEqDiff, Nat.reduceLT, Nat.reduceSub, Nat.reduceAdd, Nat.reduceMul, hs4]
   repeat refine peel ?_
   refine callK_useK (args' := [schAV s, .int .i64 clock, .bool false, .int .i64 0, entsAV l]) Try.func15 rfl rfl rfl (o_retain_Squash s clock 0 false l (by omega) _ n4) ?_ ?_
   rotate_left
   · intro p H' n' h; obtain ⟨_, _, _, hx, _⟩ := h; cases hx
   rintro rr H5 n5 ⟨k4, v4, x4, hr2, he4, ho4, hn5, hl5⟩
   cases hr2
   have hs5 := (hl5 n (by omega)).trans hs4
   try simp only [go_sem, ↓reduceIte, Nat.reduceEqDiff, Nat.reduceLT, Nat.reduceSub, Nat.reduceAdd, Nat.reduceMul, hs4]
   repeat refine peel ?_
   refine hK _ _ _ ?_; clear hK K
   refine awp_reg zs [1, 2, 3, 4, 5, 11, 12, 13, 14, 15, 16, 18, 20, 22, 24] fun K hK => ?_
   try simp only [go_sem, ↓reduceIte, Nat.reduceEqDiff, Nat.reduceLT, Nat.reduceSub, Nat.reduceAdd, Nat.reduceMul, hs5]
   repeat refine peel ?_
   refine callK_useK (args' := [schAV s, .int .i64 clock, .bool true, .int .i64 t, entsAV l]) Try.func15 rfl rfl rfl (o_retain_Squash s clock t true l (by omega) _ n5) ?_ ?_
   rotate_left
   · intro p H' n' h; obtain ⟨_, _, _, hx, _⟩ := h; cases hx
   rintro rr H6 n6 ⟨k5, v5, x5, hr2, he5, ho5, hn6, hl6⟩
   cases hr2
   have hs6 := (hl6 n (by omega)).trans hs5
   have hlow6 : ∀ k, k < n1 → H6 k = H1 k := fun k hk => (hl6 k (by omega)).trans ((hl5 k (by omega)).trans ((hl4 k (by omega)).trans ((hl3 k (by omega)).trans (hl2 k hk))))
   have hal : AnsL H6 n1 (as5 ⟨k1, v1, x1⟩ ⟨k2, v2, x2⟩ ⟨k3, v3, x3⟩ ⟨k4, v4, x4⟩ ⟨k5, v5, x5⟩) n6 := ⟨n2, ho1.mono (fun k _ h2 => (hl6 k (by omega)).trans ((hl5 k (by omega)).trans ((hl4 k (by omega)).trans (hl3 k h2)))) (Nat.le_refl _), n3, ho2.mono (fun k _ h2 => (hl6 k (by omega)).trans ((hl5 k (by omega)).trans (hl4 k h2))) (Nat.le_refl _), n4, ho3.mono (fun k _ h2 => (hl6 k (by omega)).trans (hl5 k h2)) (Nat.le_refl _), n5, ho4.mono (fun k _ h2 => hl6 k h2) (Nat.le_refl _), n6, ho5, Nat.le_refl _⟩
   have hasE : ∀ i, i < 5 → ((as5 ⟨k1, v1, x1⟩ ⟨k2, v2, x2⟩ ⟨k3, v3, x3⟩ ⟨k4, v4, x4⟩ ⟨k5, v5, x5⟩).getD i default).xs.map (·.e) = (ownE s clock t vn l).getD i default := fun i hi => by
     rcases i with _ | _ | _ | _ | _ | i
     · exact he1
     · exact he2
     · exact he3
     · exact he4
     · exact he5
     · omega
   have hasL : (as5 ⟨k1, v1, x1⟩ ⟨k2, v2, x2⟩ ⟨k3, v3, x3⟩ ⟨k4, v4, x4⟩ ⟨k5, v5, x5⟩).length = 5 := rfl
   try simp only [go_sem, ↓reduceIte, Nat.reduceEqDiff, Nat.reduceLT, Nat.reduceSub, Nat.reduceAdd, Nat.reduceMul, hs5]
   repeat refine peel ?_
   refine hK _ _ _ ?_; clear hK K
   refine awp_reg zs [1, 2, 3, 4, 5, 11, 12, 13, 14, 15, 26] fun K hK => ?_
   try simp only [go_sem, ↓reduceIte, Nat.reduceEqDiff, Nat.reduceLT, Nat.reduceSub, Nat.reduceAdd, Nat.reduceMul]
   repeat (first | (refine And.intro ?_ ?_; · first | exact ⟨rfl, by decide, by simp [AV.sz, AV.memOK]⟩) | refine peel ?_)
   refine hK _ _ _ ?_; clear hK K
   refine awp_seq_k fun K4 hK4 => ?_
   refine awp_rq zs [1, 2, 3, 4, 5, 11, 12, 13, 14, 15, 26, 27] ?_
   refine awp_block ?_
   -- loop 1: head [1, 2, 3, 4, 5, 11, 12, 13, 14, 15, 26, 27]
   refine awp_loop (fun T' H' n' => ∃ (i : Nat) (tg' : Nat → Tg) (A' : BkA) (bs' es' : List BS) (vf' lo : Nat), i ≤ 5 ∧ T' = tl [(1, .int .i64 clock), (2, .int .i64 t), (3, .int .i64 vn), (4, .sl 7 (l.map entAV)), (5, .loc n 0 0 0 []), (11, .bool true), (12, .sl 7 (l.map entAV)), (13, .loc (n + 1) 0 0 0 []), (14, .osl (n + 6) vf' 0 (if r = 0 then i else 5)), (15, .int .i64 r), (26, .sl 1 ((as5 ⟨k1, v1, x1⟩ ⟨k2, v2, x2⟩ ⟨k3, v3, x3⟩ ⟨k4, v4, x4⟩ ⟨k5, v5, x5⟩).map An.av)), (27, .int .i64 i)] ∧ n' = n6 ∧ A'.kb = n + 1 ∧ H' n = some (.arr 0 1 [schAV s]) ∧ Bk H' n' tg' A' bs' bs.length bs.length es' es.length es.length ∧ H' (n + 1) = some (.arr 0 5 [.agg (bookL A' bs' bs.length es' es.length)]) ∧ (∀ k, k ≤ n → tg' k = .free) ∧ tg' (n + 6) = .free ∧ (∀ k, lo ≤ k → tg' k = .free) ∧ AnsL H' lo ((as5 ⟨k1, v1, x1⟩ ⟨k2, v2, x2⟩ ⟨k3, v3, x3⟩ ⟨k4, v4, x4⟩ ⟨k5, v5, x5⟩).drop i) n6 ∧ n1 ≤ lo ∧ H' (n + 6) = some (.arr vf' 1 (if r = 0 then ((ownE s clock t vn l).take i).map entsAV else (ownE s clock t vn l).map entsAV)) ∧ (∀ k, k < n → H' k = H k) ∧ bs'.length ≤ r * 300000015 + 60000003 * i ∧ es'.length = 5 * r + i) (fun T' _ _ => 5 - iv (T' 27)) ?_ ?_
   ·skip
    refine ⟨0, tg, A, bs, es, vf, n1, by omega, ?_, rfl, hkb, hs6, hbk.frame (fun k hk _ => hlow6 k (hbk.lt k hk)) (by omega), (hlow6 _ (by omega)).trans hob, htl, htf, fun k hk => Classical.byContradiction fun hne => by have := hbk.lt k hne; omega, hal, Nat.le_refl _, ?_, fun k hk => (hlow6 k (by omega)).trans (hrest k hk), by omega, by omega⟩
    · by_cases h0 : r = 0 <;> simp [h0] <;> rfl
    · rw [hlow6 _ (by omega), hfi]; by_cases h0 : r = 0 <;> simp [h0]
   intro T1 H1 n1
   rintro ⟨i, tg', A', bs', es', vf', lo, hi, rfl, rfl, hkb2, hs7, hbk2, hob2, htl2, htf2, hfr2, hal2, hlo2, hfi2, hrest2, hbl2, hel2⟩
   refine awp_seq_k fun K5 hK5 => ?_
   refine awp_reg zs [1, 2, 3, 4, 5, 11, 12, 13, 14, 15, 26, 27, 82] fun K hK => ?_
   try simp only [go_sem, ↓reduceIte, Nat.reduceEqDiff, Nat.reduceLT, Nat.reduceSub, Nat.reduceAdd, Nat.reduceMul, List.length_map, hasL]
   repeat refine peel ?_
   refine hK _ _ _ ?_; clear hK K
   refine awp_cnd (fun hb => ?_) (fun hb => ?_)
   ·skip
    have hi5 : i < 5 := by have := of_decide_eq_true hb; omega
    generalize as5 ⟨k1, v1, x1⟩ ⟨k2, v2, x2⟩ ⟨k3, v3, x3⟩ ⟨k4, v4, x4⟩ ⟨k5, v5, x5⟩ = ans at *
    rw [drop_cons ans i (by omega)] at hal2
    obtain ⟨mid, hoa, hal3⟩ := hal2
    have hml := hal3.le
    have hnth : nth (ans.map An.av) i = An.av (ans.getD i default) := nth_map An.av ans i (by omega)
    have hae := hasE i hi5
    have hEi : (ownE s clock t vn l).getD i default = (ownE s clock t vn l)[i]'(by omega) := by simp [List.getD, List.getElem?_eq_getElem (show i < (ownE s clock t vn l).length by omega)]
    obtain ⟨hsm, hln⟩ := hEok ((ownE s clock t vn l).getD i default) (by rw [hEi]; exact List.getElem_mem _)
    generalize ans.getD i default = a at *
    have hxm : ∀ x ∈ a.xs, smallE x.e := fun x hx => hsm _ (by rw [← hae]; exact List.mem_map_of_mem hx)
    have hxl : a.xs.length ≤ 20000001 := by have := congrArg List.length hae; rw [List.length_map] at this; omega
    have hlo6 : n + 7 ≤ lo := by omega
    refine awp_skip ?_
    try simp only [go_sem, ↓reduceIte, Nat.reduceEqDiff, Nat.reduceLT, Nat.reduceSub, Nat.reduceAdd, Nat.reduceMul]
    refine hK5 _ _ _ ?_
    first | clear hK5 K5 | skip
    refine awp_seq_k fun K6 hK6 => ?_
    refine awp_block ?_
    refine awp_seq_j (fun T' H' n' => ∃ vf2, T' = tl [(1, .int .i64 clock), (2, .int .i64 t), (3, .int .i64 vn), (4, .sl 7 (l.map entAV)), (5, .loc n 0 0 0 []), (11, .bool true), (12, .sl 7 (l.map entAV)), (13, .loc (n + 1) 0 0 0 []), (14, .osl (n + 6) vf2 0 (if r = 0 then i + 1 else 5)), (15, .int .i64 r), (26, .sl 1 (ans.map An.av)), (27, .int .i64 i)] ∧ n' = n1 ∧ H' (n + 6) = some (.arr vf2 1 (if r = 0 then ((ownE s clock t vn l).take (i + 1)).map entsAV else (ownE s clock t vn l).map entsAV)) ∧ ∀ k, k ≠ n + 6 → H' k = H1 k) ?_ ?_
    ·skip
     refine awp_rq zs [1, 2, 3, 4, 5, 11, 12, 13, 14, 15, 26, 27, 86] ?_
     refine awp_cnd (fun hb => ?_) (fun hb => ?_)
     ·skip
      have hr0 : r = 0 := by have := of_decide_eq_true hb; omega
      have hfi3 := hfi2
      rw [if_pos hr0] at hfi3
      simp only [if_pos hr0]
      have htl9 : ((ownE s clock t vn l).take i).length = i := by rw [List.length_take]; omega
      refine awp_reg1 zs [1, 2, 3, 4, 5, 11, 12, 13, 14, 15, 26, 27] fun K hK => ?_
      try simp only [go_sem, ↓reduceIte, Nat.reduceEqDiff, Nat.reduceLT, Nat.reduceSub, Nat.reduceAdd, Nat.reduceMul, hnth, Int.toNat_natCast, An.av, hfi3, List.length_map, hasL, entsAV]
      repeat (first | (refine And.intro ?_ ?_; · first | exact ⟨rfl, by decide, by simp [AV.sz, AV.memOK, entsAV]⟩ | exact ⟨by rw [htl9]; exact Nat.le_refl _, .inr trivial, by omega, by omega⟩ | exact ⟨by omega, by omega⟩) | refine peel ?_)
      refine callK_use Try.func22 rfl rfl rfl ((l_ref3_CloneAll ⟨a.ko, a.ver, a.xs.map lentAV⟩ a.xs (by omega) (fun x hx => small_fits (hxm x hx)) _ _ (hoa.ll hml))) ?_
      try simp only [go_sem, ↓reduceIte, Nat.reduceEqDiff, Nat.reduceLT, Nat.reduceSub, Nat.reduceAdd, Nat.reduceMul, hnth, Int.toNat_natCast, An.av, hfi3, List.length_map, hasL, entsAV]
      repeat (first | (refine And.intro ?_ ?_; · first | exact ⟨rfl, by decide, by simp [AV.sz, AV.memOK, entsAV]⟩ | exact ⟨by rw [htl9]; exact Nat.le_refl _, .inr trivial, by omega, by omega⟩ | exact ⟨by omega, by omega⟩) | refine peel ?_)
      refine hK _ _ _ ?_; clear hK K
      try simp only [go_sem, ↓reduceIte, Nat.reduceEqDiff, Nat.reduceLT, Nat.reduceSub, Nat.reduceAdd, Nat.reduceMul]
      first
      | (refine ⟨vf' + 1, by first | rfl | rw [if_pos hr0], ?_, fun k hk => if_neg hk⟩
         try rw [if_pos hr0]
         rw [hae, List.take_succ_eq_append_getElem (show i < (ownE s clock t vn l).length by omega), ← hEi]
         simp [List.take_of_length_le, htl9, entsAV, List.take_take])
      | (refine ⟨vf', by first | rfl | rw [if_neg hr0], ?_⟩
         first | exact hfi3 | ((try rw [if_neg hr0]); exact hfi3) | ((try rw [if_neg hr0]); exact ⟨hfi3, fun k _ => rfl⟩))
     ·skip
      have hr0 : r ≠ 0 := by have := of_decide_eq_false hb; omega
      have hfi3 := hfi2
      rw [if_neg hr0] at hfi3
      simp only [if_neg hr0]
      have hnE : nth ((ownE s clock t vn l).map entsAV) i = entsAV ((ownE s clock t vn l).getD i default) := nth_map entsAV _ i (by omega)
      have hsame : ∀ m, Ret Try.prog 18 [.osl a.ko a.ver 0 a.xs.length, entsAV ((ownE s clock t vn l).getD i default)] H1 m (.bool true) H1 m := fun m => by
        have h := c_ref3_SameAll (a.xs.map (·.e)) ((ownE s clock t vn l).getD i default) (by rw [List.length_map]; omega) (fun _ => none) 0
        rw [show decide (a.xs.map (·.e) = (ownE s clock t vn l).getD i default) = true by rw [hae]; simp] at h
        exact Ret.lend trivial (.cons (hoa.frz (Nat.zero_le _)) (.cons (.kl (kls_ents _ 0)) .nil)) h
      refine awp_drw rfl zs [1, 2, 3, 4, 5, 11, 12, 13, 14, 15, 26, 27, 104] [.m, .m, .q, .q, .m, .m, .q, .q, .c, .q] (by kernel_rfl) (fun _ _ _ _ _ h => h) fun K hK => ?_
      try simp only [go_sem, ↓reduceIte, Nat.reduceEqDiff, Nat.reduceLT, Nat.reduceSub, Nat.reduceAdd, Nat.reduceMul, hnth, Int.toNat_natCast, An.av, hfi3, List.length_map, hasL, hnE, hEl]
      repeat (first | (refine And.intro ?_ ?_; · first | exact ⟨by omega, by omega⟩) | refine peel ?_)
      refine callQG_use Try.func18 rfl rfl rfl (fun _ m => hsame m) ?_
      try simp only [go_sem, ↓reduceIte, Nat.reduceEqDiff, Nat.reduceLT, Nat.reduceSub, Nat.reduceAdd, Nat.reduceMul, hnth, Int.toNat_natCast, An.av, hfi3, List.length_map, hasL, hnE, hEl]
      repeat (first | (refine And.intro ?_ ?_; · first | exact ⟨by omega, by omega⟩) | refine peel ?_)
      refine hK _ _ _ ?_; clear hK K
      refine awp_cnd (fun hb => ?_) (fun hb => ?_)
      ·skip
       exact absurd hb (by decide)
       --dead
      ·skip
       refine awp_sel [1, 2, 3, 4, 5, 11, 12, 13, 14, 15, 26, 27] ?_
       refine awp_skip ?_
       try simp only [go_sem, ↓reduceIte, Nat.reduceEqDiff, Nat.reduceLT, Nat.reduceSub, Nat.reduceAdd, Nat.reduceMul]
       first
       | (refine ⟨vf' + 1, by first | rfl | rw [if_pos hr0], ?_, fun k hk => if_neg hk⟩
          try rw [if_pos hr0]
          rw [hae, List.take_succ_eq_append_getElem (show i < (ownE s clock t vn l).length by omega), ← hEi]
          simp [List.take_of_length_le, htl9, entsAV, List.take_take])
       | (refine ⟨vf', by first | rfl | rw [if_neg hr0], ?_⟩
          first | exact hfi3 | ((try rw [if_neg hr0]); exact hfi3) | ((try rw [if_neg hr0]); exact ⟨hfi3, fun k _ => rfl⟩))
    rintro T2 H2 n2 ⟨vf2, rfl, rfl, hfi4, hoth⟩
    have hbk3 := hbk2.frame (n' := n2) (fun k hk _ => hoth k (fun e => hk (by rw [e]; exact htf2))) (Nat.le_refl _)
    have hoa3 := hoa.mono (hi' := mid) (fun k h1 h2 => hoth k (by omega)) (Nat.le_refl _)
    have fre : ∀ k, tg' k = .free → k ≠ A'.kb ∧ k ≠ A'.kB ∧ k ≠ A'.kE := fun k hk => ⟨fun e => by rw [e, hbk2.tb] at hk; simp at hk, fun e => by rw [e, hbk2.tB] at hk; simp at hk, fun e => by rw [e, hbk2.tE] at hk; simp at hk⟩
    have hoaf := fre a.ko (hfr2 _ hoa.ge)
    refine awp_reg1 zs [1, 2, 3, 4, 5, 11, 12, 13, 14, 15, 26, 27] fun K hK => ?_
    try simp only [go_sem, ↓reduceIte, Nat.reduceEqDiff, Nat.reduceLT, Nat.reduceSub, Nat.reduceAdd, Nat.reduceMul, hnth, Int.toNat_natCast, An.av, List.length_map, hasL]
    repeat (first | (refine And.intro ?_ ?_; · first | exact ⟨by omega, by omega⟩) | refine peel ?_)
    refine callK_useK (args' := [.loc A'.kb 0 0 0 [], .osl a.ko a.ver 0 a.xs.length]) Try.func25 rfl rfl (by rw [hkb2]; rfl) (c_law_keep .nilsl rfl A' bs' bs.length es' es.length a.ko a.ver a.xs H2 n2 (by rw [hkb2]; exact (hoth _ (by omega)).trans hob2) hbk3.lB hbk3.lE hoa3.at' (fun e => by have h1 := hbk2.tb; rw [e, hbk2.tB] at h1; simp at h1) (fun e => by have h1 := hbk2.tb; rw [e, hbk2.tE] at h1; simp at h1) (fun e => by have h1 := hbk2.tB; rw [e, hbk2.tE] at h1; simp at h1) hoaf.1 hoaf.2.1 hoaf.2.2 (by omega) (by omega)) ?_ ?_
    rotate_left
    · intro p H' n' h; obtain ⟨_, _, hx, _⟩ := h; cases hx
    rintro rr H3 n3 ⟨vB, vE, hr2, rfl, hB3, hE3, hob3, hrest3⟩
    cases hr2
    try simp only [go_sem, ↓reduceIte, Nat.reduceEqDiff, Nat.reduceLT, Nat.reduceSub, Nat.reduceAdd, Nat.reduceMul, hnth, Int.toNat_natCast, An.av, List.length_map, hasL]
    repeat (first | (refine And.intro ?_ ?_; · first | exact ⟨by omega, by omega⟩) | refine peel ?_)
    refine hK _ _ _ ?_; clear hK K
    try simp only [go_sem, ↓reduceIte, Nat.reduceEqDiff, Nat.reduceLT, Nat.reduceSub, Nat.reduceAdd, Nat.reduceMul]
    refine hK6 _ _ _ ?_
    first | clear hK6 K6 | skip
    refine awp_reg1 zs [1, 2, 3, 4, 5, 11, 12, 13, 14, 15, 26, 27] fun K hK => ?_
    try simp only [go_sem, ↓reduceIte, Nat.reduceEqDiff, Nat.reduceLT, Nat.reduceSub, Nat.reduceAdd, Nat.reduceMul]
    repeat refine peel ?_
    refine hK _ _ _ ?_; clear hK K
    try simp only [go_sem, ↓reduceIte, Nat.reduceEqDiff, Nat.reduceLT, Nat.reduceSub, Nat.reduceAdd, Nat.reduceMul]
    have hH3 : ∀ k, tg' k = .free → k ≠ n + 6 → H3 k = H1 k := fun k hk h6 => by obtain ⟨g1, g2, g3⟩ := fre k hk; rw [hrest3 k g1 g2 g3, hoth k h6]
    refine ⟨⟨i + 1, tgAns tg' bs'.length es'.length a.ko (a.xs.flatMap LEnt.ks), { A' with vB := vB, vE := vE }, bs' ++ a.xs.flatMap newB, es' ++ [BS.mk a.ko a.ver a.xs.length 0 0], vf2, mid, by omega, by rw [w1 (by omega)], hkb2, ?_, ?_, ?_, ?_, ?_, ?_, ?_, by have := hoa.ge; have := hoa.lt; omega, ?_, ?_, ?_, ?_⟩, by rw [w1 (by omega)]; simp; omega⟩
    · rw [hH3 n (htl2 n (Nat.le_refl _)) (by omega)]; exact hs7
    · exact hbk3.keep hoa3 (fun k h1 _ => hfr2 k h1) hml (fun x hx => by obtain ⟨g1, g2, g3⟩ := hxm x hx; omega) (by omega) (by omega) (by omega) hB3 hE3 hrest3
    · rw [← hkb2]; exact hob3
    · intro k hk; rw [hoa.out _ _ _ (.inl (by omega))]; exact htl2 k hk
    · rw [hoa.out _ _ _ (.inl (by omega))]; exact htf2
    · intro k hk; rw [hoa.out _ _ _ (.inr hk)]; exact hfr2 k (by have := hoa.ge; have := hoa.lt; omega)
    · exact hal3.mono fun k h1 h2 => hH3 k (hfr2 k (by have := hoa.ge; have := hoa.lt; omega)) (by have := hoa.ge; have := hoa.lt; omega)
    · obtain ⟨g1, g2, g3⟩ := fre (n + 6) htf2; rw [hrest3 _ g1 g2 g3]; exact hfi4
    · intro k hk; rw [hH3 k (htl2 k (by omega)) (by omega)]; exact hrest2 k hk
    · rw [List.length_append, newB_len]; omega
    · rw [List.length_append, List.length_singleton]; omega
   ·skip
    have hi5 : i = 5 := by have := of_decide_eq_false hb; omega
    subst hi5
    have h14 : (if r = 0 then 5 else 5) = 5 := by split <;> rfl
    rw [h14]
    have hfi5 : H1 (n + 6) = some (.arr vf' 1 ((ownE s clock t vn l).map entsAV)) := by rw [hfi2]; split <;> simp [List.take_of_length_le, hEl]
    refine awp_exit ?_
    try simp only [go_sem, ↓reduceIte, Nat.reduceEqDiff, Nat.reduceLT, Nat.reduceSub, Nat.reduceAdd, Nat.reduceMul]
    refine hK4 _ _ _ ?_
    first | clear hK4 K4 | skip
    refine awp_reg zs [1, 2, 3, 4, 5, 11, 12, 13, 14, 15] fun K hK => ?_
    try simp only [go_sem, ↓reduceIte, Nat.reduceEqDiff, Nat.reduceLT, Nat.reduceSub, Nat.reduceAdd, Nat.reduceMul]
    repeat refine peel ?_
    refine callK_useK (args' := [.loc A'.kb 0 0 0 []]) Try.func26 rfl rfl (by rw [hkb2]; rfl) (c_law_spoils .nilsl rfl tg' A' bs' bs.length es' es.length H1 n1 hbk2 (by rw [hkb2]; exact hob2)) ?_ ?_
    rotate_left
    · intro p H' n' h; obtain ⟨_, _, _, _, hx, _⟩ := h; cases hx
    rintro rr H2 n2 ⟨tg2, A2, bs2, es2, hr2, hS⟩
    cases hr2
    have hbk4 := hS.bk
    rw [← hS.lb, ← hS.le'] at hbk4
    have hob4 := hS.obj
    rw [← hS.lb, ← hS.le'] at hob4
    have hkb4 : A2.kb = n + 1 := hS.kb.trans hkb2
    try simp only [go_sem, ↓reduceIte, Nat.reduceEqDiff, Nat.reduceLT, Nat.reduceSub, Nat.reduceAdd, Nat.reduceMul]
    repeat refine peel ?_
    refine hK _ _ _ ?_; clear hK K
    refine awp_reg zs [1, 2, 3, 4, 5, 11, 12, 13, 14, 15, 121] fun K hK => ?_
    try simp only [go_sem, ↓reduceIte, Nat.reduceEqDiff, Nat.reduceLT, Nat.reduceSub, Nat.reduceAdd, Nat.reduceMul, decide_true]
    repeat refine peel ?_
    refine callK_use Try.func27 rfl rfl rfl ((by have h := c_law_stands .nilsl tg2 A2 bs2 es2 H2 n2 hbk4 hob4; rw [hkb4] at h; exact h)) ?_
    try simp only [go_sem, ↓reduceIte, Nat.reduceEqDiff, Nat.reduceLT, Nat.reduceSub, Nat.reduceAdd, Nat.reduceMul, decide_true]
    repeat refine peel ?_
    refine callG_use Try.func18 rfl rfl rfl (fun _ => (c_ref3_SameAll l l (by omega) _ _)) ?_
    try simp only [go_sem, ↓reduceIte, Nat.reduceEqDiff, Nat.reduceLT, Nat.reduceSub, Nat.reduceAdd, Nat.reduceMul, decide_true]
    repeat refine peel ?_
    refine hK _ _ _ ?_; clear hK K
    refine awp_cnd (fun hb => ?_) (fun hb => ?_)
    ·skip
     exact absurd hb (by decide)
     --dead
    ·skip
     refine awp_sel [1, 2, 3, 4, 5, 11, 12, 13, 14, 15] ?_
     refine awp_skip ?_
     try simp only [go_sem, ↓reduceIte, Nat.reduceEqDiff, Nat.reduceLT, Nat.reduceSub, Nat.reduceAdd, Nat.reduceMul]
     refine hK3 _ _ _ ?_
     first | clear hK3 K3 | skip
     refine awp_reg1 zs [1, 2, 3, 4, 5, 11, 12, 13, 14, 15] fun K hK => ?_
     try simp only [go_sem, ↓reduceIte, Nat.reduceEqDiff, Nat.reduceLT, Nat.reduceSub, Nat.reduceAdd, Nat.reduceMul]
     repeat refine peel ?_
     refine hK _ _ _ ?_; clear hK K
     try simp only [go_sem, ↓reduceIte, Nat.reduceEqDiff, Nat.reduceLT, Nat.reduceSub, Nat.reduceAdd, Nat.reduceMul]
     have hn2 := hS.le
     refine ⟨⟨r + 1, tg2, A2, bs2, es2, vf', by omega, ?_, hkb4, by omega, ?_, hbk4, by rw [← hkb4]; exact hob4, ?_, ?_, ?_, ?_, ?_, ?_⟩, by rw [w1 (by omega)]; simp; omega⟩
     · rw [w1 (by omega)]; rfl
     · rw [(hS.free n (by omega) (htl2 n (Nat.le_refl _))).1]; exact hs7
     · intro k hk; exact (hS.free k (by omega) (htl2 k hk)).2
     · exact (hS.free (n + 6) (by omega) htf2).2
     · rw [(hS.free (n + 6) (by omega) htf2).1, hfi5]; simp
     · intro k hk; rw [(hS.free k (by omega) (htl2 k (by omega))).1]; exact hrest2 k hk
     · rw [hS.lb]; omega
     · rw [hS.le']; omega
  ·skip
   have hr3 : r = 3 := by have := of_decide_eq_false hb; omega
   refine awp_exit ?_
   try simp only [go_sem, ↓reduceIte, Nat.reduceEqDiff, Nat.reduceLT, Nat.reduceSub, Nat.reduceAdd, Nat.reduceMul]
   refine hK1 _ _ _ ?_
   first | clear hK1 K1 | skip
   refine awp_rq zs [10] ?_
   refine awp_ret ?_
   try simp only [go_sem, ↓reduceIte, Nat.reduceEqDiff, Nat.reduceLT, Nat.reduceSub, Nat.reduceAdd, Nat.reduceMul]
   exact ⟨_, rfl, hrest, .kl trivial⟩
end Go.Proofs.Ytijhkfhflpmajaa


namespace Go.Sx
open Go Go.ChangeShapes

/-- all that was there is read-only -/
def c0 (W : World) : Ctx := ⟨fun _ _ => none, fun b => match W.heap[b]? with | some (.cells a _ _) => some a | _ => none⟩
theorem sim0 (W : World) : Sim (c0 W) (fun _ => none) 0 W where
  ro := fun b a h => by
    simp only [c0] at h
    split at h
    · rename_i a' ty fr hb; simp only [Option.some.injEq] at h; subst h; exact ⟨ty, fr, hb⟩
    · simp at h
  own := fun k o h => by simp at h
  sep := fun k o b h => by simp at h
  inj := fun k k' o o' b h => by simp at h
  fresh := fun k _ => ⟨rfl, fun v => rfl⟩
  vers := fun k o v h => by simp at h

structure BulkOK {H : Type} (B : DataW H → Nat) : Prop where
  lit : ∀ l, 1 ≤ B (.lit l)
  str : ∀ s : List UInt8, s.length ≤ B (.lit (.string s))
  nil : 1 ≤ B .nil
  slice : ∀ es sp, (es.map B).sum + 1 ≤ B (.slice es sp)
  agg : ∀ ps, (ps.map B).sum + 1 ≤ B (.agg ps)

section
variable {H : Type} (enc : TypeId × Value → H) (P : Program) (W : World) (B : DataW H → Nat)

def Reads (t : TypeId) (S : AV → Nat → Prop) : Prop :=
  ∀ fuel cs x, DataW.trod enc P W 0 (fun _ => true) true fuel t cs = some x → ∃ a m, S a m ∧ Rel (c0 W) a true cs ∧ m ≤ B x.1

variable {enc P W B}

theorem reads_int (hB : BulkOK B) {t : TypeId} {k : IntKind} (hu : P.underlying t = some (.int k)) : Reads enc P W B t fun a m => ∃ n, a = .int k n ∧ (Lit.int k n).wf = true ∧ m = 1 := fun fuel cs x h => by
  obtain ⟨n, rfl, rfl, hw⟩ := DataW.trod_int hu h
  exact ⟨_, 1, ⟨n, rfl, hw, rfl⟩, by simp [Rel], hB.lit _⟩
theorem reads_str (hB : BulkOK B) {t : TypeId} (hu : P.underlying t = some .string) : Reads enc P W B t fun a m => ∃ s, a = .str s ∧ m = s.length := fun fuel cs x h => by
  obtain ⟨s, rfl, rfl, _⟩ := DataW.trod_string hu h
  exact ⟨_, _, ⟨s.data.toList, rfl, rfl⟩, by simp [Rel], hB.str _⟩

def sSl (esz : Nat) (S : AV → Nat → Prop) (a : AV) (m : Nat) : Prop := ∃ xs : List (AV × Nat), a = .sl esz (xs.map (·.1)) ∧ (∀ y ∈ xs, S y.1 y.2) ∧ m = (xs.map (·.2)).sum + 1

theorem relF_flat {c : Ctx} (f : Nat → AV) (g : Nat → List Value) : ∀ (l : List Nat), (∀ i ∈ l, Rel c (f i) true (g i)) → RelF c (l.map f) (l.flatMap g)
  | [], _ => by simp [RelF]
  | i :: l, h => by
    simp only [List.map_cons, List.flatMap_cons, RelF]
    exact ⟨_, _, rfl, h i (by simp), relF_flat f g l fun j hj => h j (by simp [hj])⟩
theorem at_flat {arr : Array Value} {off esz : Nat} (g : Nat → List Value) : ∀ (n s : Nat), (∀ i, s ≤ i → i < s + n → (g i).length = esz ∧ At arr (off + i * esz) (g i)) → At arr (off + s * esz) ((List.range' s n).flatMap g)
  | 0, s, _ => by simp; exact At.nil
  | n + 1, s, h => by
    rw [List.range'_succ, List.flatMap_cons]
    obtain ⟨h1, h2⟩ := h s (Nat.le_refl _) (by omega)
    refine At.append.2 ⟨h2, ?_⟩
    rw [h1]
    have := at_flat g n (s + 1) fun i hi hi' => h i (by omega) (by omega)
    rw [Nat.add_mul, Nat.one_mul, ← Nat.add_assoc] at this
    exact this
theorem sum_le {α : Type} (f g : α → Nat) : ∀ (l : List α), (∀ x ∈ l, f x ≤ g x) → (l.map f).sum ≤ (l.map g).sum
  | [], _ => by simp
  | x :: l, h => by
    simp only [List.map_cons, List.sum_cons]
    have := sum_le f g l fun y hy => h y (by simp [hy])
    have := h x (by simp)
    omega

theorem reads_slice (hB : BulkOK B) {t e : TypeId} {esz : Nat} {S : AV → Nat → Prop} (hu : P.underlying t = some (.slice e)) (hsz : P.cellsOf e = esz) (hpos : 0 < esz) (hS : Reads enc P W B e S) (hSz : ∀ a m, S a m → a.sz = esz) :
    Reads enc P W B t (sSl esz S) := fun fuel cs x h => by
  subst hsz
  rcases DataW.trod_slice hu h with ⟨rfl, rfl⟩ | ⟨a, len, cap, elems, rest, n, rfl, rfl, rfl, _, hl, hm, hlen, hel, _, _⟩
  · refine ⟨.sl (P.cellsOf e) [], 1, ⟨[], rfl, by simp, rfl⟩, ?_, hB.nil⟩
    simp only [Rel]
    exact ⟨none, 0, rfl, Nat.le_refl _, by simp, .inl trivial⟩
  · have each : ∀ i, i < len → ∃ (y : AV × Nat) (ci : List Value), W.cells? 0 (a.add (i * P.cellsOf e)) (P.cellsOf e) = some ci ∧ S y.1 y.2 ∧ Rel (c0 W) y.1 true ci ∧ ∀ z, elems[i]? = some z → y.2 ≤ B z.1 := fun i hi => by
      have hz : elems[i]? = some elems[i] := List.getElem?_eq_getElem (by omega)
      have h1 := hel i hi
      rw [hz] at h1
      simp only [Option.bind_eq_some_iff] at h1
      obtain ⟨ci, h1, h2⟩ := h1
      obtain ⟨aa, m, h3, h4, h5⟩ := hS _ _ _ h2
      exact ⟨(aa, m), ci, h1, h3, h4, fun z hz' => by rw [hz] at hz'; cases hz'; exact h5⟩
    have each' : ∀ i, ∃ (y : AV × Nat) (ci : List Value), i < len → W.cells? 0 (a.add (i * P.cellsOf e)) (P.cellsOf e) = some ci ∧ S y.1 y.2 ∧ Rel (c0 W) y.1 true ci ∧ ∀ z, elems[i]? = some z → y.2 ≤ B z.1 := fun i => by
      by_cases hi : i < len
      · obtain ⟨y, ci, h⟩ := each i hi; exact ⟨y, ci, fun _ => h⟩
      · exact ⟨(.junk, 0), [], fun h => absurd h hi⟩
    let f : Nat → AV × Nat := fun i => Classical.choose (each' i)
    let g : Nat → List Value := fun i => Classical.choose (Classical.choose_spec (each' i))
    have hfg : ∀ i, i < len → W.cells? 0 (a.add (i * P.cellsOf e)) (P.cellsOf e) = some (g i) ∧ S (f i).1 (f i).2 ∧ Rel (c0 W) (f i).1 true (g i) ∧ ∀ z, elems[i]? = some z → (f i).2 ≤ B z.1 := fun i => Classical.choose_spec (Classical.choose_spec (each' i))
    clear_value f g
    refine ⟨.sl (P.cellsOf e) (((List.range' 0 len).map f).map (·.1)), _, ⟨(List.range' 0 len).map f, rfl, ?_, rfl⟩, ?_, ?_⟩
    · intro y hy
      obtain ⟨i, hi, rfl⟩ := List.mem_map.1 hy
      exact (hfg i (by simpa using hi)).2.1
    · simp only [Rel]
      refine ⟨some a, cap, by simp, by simpa using hl, ?_, ?_⟩
      · intro x hx
        simp only [List.map_map, List.mem_map, List.mem_range'_1] at hx
        obtain ⟨i, hi, rfl⟩ := hx
        exact hSz _ _ (hfg i (by omega)).2.1
      · by_cases h0 : len = 0
        · left; subst h0; rfl
        · right
          obtain ⟨b, off, spot⟩ := a
          have hc0 := (World.cells?_some (hfg 0 (by omega)).1).2.2 0 hpos
          have hl0 := (World.cells?_some (hfg 0 (by omega)).1).2.1
          have hv : ∃ v, (g 0)[0]? = some v := ⟨(g 0)[0], List.getElem?_eq_getElem (by omega)⟩
          obtain ⟨v, hv⟩ := hv
          rw [hv] at hc0
          have hspot : spot = none := by simpa [Addr.add] using World.cell?_spot hc0
          subst hspot
          have harr : ∃ arr ty fr, W.heap[b]? = some (.cells arr ty fr) := by
            simp only [Nat.zero_mul, Addr.add, if_true] at hc0
            unfold World.cell? at hc0
            cases hb : W.heap[b]? with
            | none => simp [hb] at hc0
            | some o => cases o <;> simp [hb] at hc0 ⊢
          obtain ⟨arr, ty, fr, hb⟩ := harr
          refine ⟨b, off, arr, (List.range' 0 len).flatMap g, rfl, by simp [c0, hb], ?_, ?_⟩
          · rw [List.map_map]
            exact relF_flat _ g _ fun i hi => (hfg i (by simpa using hi)).2.2.1
          · have := at_flat (arr := arr) (off := off) (esz := P.cellsOf e) g len 0 fun i _ hi => by
              obtain ⟨_, h2, h3⟩ := World.cells?_some (hfg i (by omega)).1
              refine ⟨h2, fun j v hj => ?_⟩
              have hjl : j < P.cellsOf e := by
                rcases Nat.lt_or_ge j (g i).length with h | h
                · omega
                · rw [List.getElem?_eq_none h] at hj; simp at hj
              have h4 := h3 j hjl
              rw [hj, Addr.add_plain, Addr.add_plain] at h4
              simp only [World.cell?, hb] at h4
              simpa using h4
            simpa using this
    · have h1 : (((List.range' 0 len).map f).map (·.2)).sum ≤ ((elems.map (·.1)).map B).sum := by
        have e1 : elems = (List.range' 0 len).map fun i => (elems[i]?).getD (.nil, []) := by
          apply List.ext_getElem?
          intro i
          by_cases hi : i < len
          · simp [List.getElem?_map, List.getElem?_range' hi, List.getElem?_eq_getElem (show i < elems.length by omega)]
          · rw [List.getElem?_eq_none (by omega), List.getElem?_eq_none (by simp; omega)]
        have e2 : ((elems.map (·.1)).map B) = (List.range' 0 len).map fun i => B ((elems[i]?).getD (.nil, [])).1 := by
          conv => lhs; rw [e1]
          simp [List.map_map, Function.comp_def]
        rw [e2, List.map_map]
        refine sum_le _ _ _ fun i hi => ?_
        have hi' : i < len := by simpa using hi
        exact (hfg i hi').2.2.2 _ (by rw [List.getElem?_eq_getElem (show i < elems.length by omega)]; rfl)
      have h2 := hB.slice (elems.map (·.1)) (rest.map (·.1))
      show _ ≤ B (.slice _ _)
      omega

/-- fields, one behind the other -/
def SAll : List (AV → Nat → Prop) → List (AV × Nat) → Prop
  | [], [] => True
  | S :: Ss, x :: xs => S x.1 x.2 ∧ SAll Ss xs
  | _, _ => False
def sAgg (Ss : List (AV → Nat → Prop)) (a : AV) (m : Nat) : Prop := ∃ xs : List (AV × Nat), a = .agg (xs.map (·.1)) ∧ SAll Ss xs ∧ m = (xs.map (·.2)).sum + 1
variable (enc P W B) in
def FldOK : List Field → List (AV → Nat → Prop) → Nat → Nat → Prop
  | [], [], off, total => off = total
  | f :: fs, S :: Ss, off, total => f.offset = off ∧ Reads enc P W B f.type S ∧ FldOK fs Ss (off + P.cellsOf f.type) total
  | _, _, _, _ => False

theorem fields_rel {n : Nat} {cs : List Value} : ∀ (fs : List Field) (Ss : List (AV → Nat → Prop)) (off : Nat) (ys : List (DataW H × List MemPlace)), FldOK enc P W B fs Ss off cs.length → ys.length = fs.length →
    (∀ (i : Nat) (f : Field), fs[i]? = some f → DataW.trod enc P W 0 (fun _ => true) true n f.type ((cs.drop f.offset).take (P.cellsOf f.type)) = ys[i]?) →
    ∃ xs, SAll Ss xs ∧ RelF (c0 W) (xs.map (·.1)) (cs.drop off) ∧ (xs.map (·.2)).sum ≤ ((ys.map (·.1)).map B).sum
  | [], [], off, ys, hf, hl, _ => by
    simp only [FldOK] at hf
    refine ⟨[], trivial, ?_, by simp⟩
    simp only [List.map_nil, RelF]
    exact List.drop_eq_nil_of_le (by omega)
  | f :: fs, S :: Ss, off, ys, hf, hl, hy => by
    simp only [FldOK] at hf
    obtain ⟨ho, hr, hf⟩ := hf
    cases ys with
    | nil => simp at hl
    | cons y ys =>
      have h0 := hy 0 f rfl
      simp only [List.getElem?_cons_zero] at h0
      obtain ⟨a, m, h1, h2, h3⟩ := hr _ _ _ h0
      obtain ⟨xs, h4, h5, h6⟩ := fields_rel fs Ss (off + P.cellsOf f.type) ys hf (by simpa using hl) fun i f' hi => by
        have := hy (i + 1) f' (by simpa using hi)
        simpa using this
      refine ⟨(a, m) :: xs, ⟨h1, h4⟩, ?_, by simp only [List.map_cons, List.sum_cons]; omega⟩
      simp only [List.map_cons, RelF]
      refine ⟨(cs.drop off).take (P.cellsOf f.type), cs.drop (off + P.cellsOf f.type), ?_, by rw [← ho]; exact h2, h5⟩
      rw [← List.drop_drop, List.take_append_drop]
  | [], _ :: _, _, _, hf, _, _ => by simp [FldOK] at hf
  | _ :: _, [], _, _, hf, _, _ => by simp [FldOK] at hf

theorem reads_struct (hB : BulkOK B) {t : TypeId} {fs : Array Field} {Ss : List (AV → Nat → Prop)} (hu : P.underlying t = some (.struct fs)) (hf : FldOK enc P W B fs.toList Ss 0 (P.cellsOf t)) : Reads enc P W B t (sAgg Ss) := fun fuel cs x h => by
  obtain ⟨ys, n, rfl, rfl, hl, hyl, hy⟩ := DataW.trod_struct hu h
  rw [← hl] at hf
  obtain ⟨xs, h1, h2, h3⟩ := fields_rel fs.toList Ss 0 ys hf (by simpa using hyl) fun i f hi => hy i f (by simpa using hi)
  refine ⟨.agg (xs.map (·.1)), _, ⟨xs, rfl, h1, rfl⟩, by simp only [Rel]; simpa using h2, ?_⟩
  have := hB.agg (ys.map (·.1))
  show _ ≤ B (.agg _)
  omega

/-- an argument's reading -/
theorem reads_arg {t : TypeId} {S : AV → Nat → Prop} (hr : Reads enc P W B t S) {v : Value} {d : DataW H} {ps : List MemPlace} (h : DataW.Trod enc P W 0 (fun _ => true) true t v d ps) :
    ∃ a m, S a m ∧ Rel (c0 W) a true v.cells.toList ∧ m ≤ B d := by
  obtain ⟨fuel, h⟩ := h
  exact hr _ _ _ h
end

theorem rel_flat {c : Ctx} {a : AV} {v : Value} (h : Rel c a true v.cells.toList) (ha : a.isAgg = true → ∃ cs, v = .agg cs) (hn : a.isAgg = false → v.cells = #[v]) : Rel c a false [v] := by
  cases hag : a.isAgg with
  | true =>
    obtain ⟨cs, rfl⟩ := ha hag
    cases a <;> simp [AV.isAgg] at hag
    simp only [Rel] at h ⊢
    exact ⟨cs, rfl, h⟩
  | false =>
    rw [hn hag] at h
    cases a <;> simp only [Rel] at h ⊢ <;> first | exact h | (simp [AV.isAgg] at hag; done) | skip
    · exact ⟨h.1, fun h => by simp at h⟩
    · obtain ⟨x, h1, _⟩ := h; exact ⟨x, h1, fun h => by simp at h⟩
end Go.Sx
namespace Go.Sx
open Go
theorem sSl_map {α : Type} {esz : Nat} {S : AV → Nat → Prop} {f : α → AV} {q : α → Nat} (h : ∀ a m, S a m → ∃ x, a = f x ∧ q x ≤ m ∧ 1 ≤ m) {a : AV} {m : Nat} (hs : sSl esz S a m) :
    ∃ l : List α, a = .sl esz (l.map f) ∧ l.length + 1 ≤ m ∧ ∀ x ∈ l, q x ≤ m := by
  obtain ⟨xs, rfl, hx, rfl⟩ := hs
  suffices hh : ∃ l : List α, xs.map (·.1) = l.map f ∧ l.length ≤ (xs.map (·.2)).sum ∧ ∀ x ∈ l, q x ≤ (xs.map (·.2)).sum by
    obtain ⟨l, h1, h2, h3⟩ := hh
    exact ⟨l, by rw [h1], by omega, fun x hx => by have := h3 x hx; omega⟩
  induction xs with
  | nil => exact ⟨[], rfl, by simp, by simp⟩
  | cons y ys ih =>
    obtain ⟨l, h1, h2, h3⟩ := ih fun z hz => hx z (by simp [hz])
    obtain ⟨x, h4, h5, h6⟩ := h y.1 y.2 (hx y (by simp))
    refine ⟨x :: l, by simp [h1, h4], by simp; omega, fun z hz => ?_⟩
    simp only [List.map_cons, List.sum_cons]
    rcases List.mem_cons.1 hz with rfl | hz
    · omega
    · have := h3 z hz; omega

theorem Ret.below {P : Program} {f : FuncId} {args : List AV} {W : World} {vs : List Value} {b : Bool} (h : Ret P f args (fun _ => none) 0 (.bool b) (fun _ => none) 0) (hr : RelT (c0 W) args vs) :
    Calls P f vs.toArray W fun e w' => e = .returned (.bool b) ∧ RowKit.Below W.heap.size W w' :=
  (h (c0 W) W vs (sim0 W) hr).mono fun e w' ⟨res, c', H', n', ⟨hres, _, _⟩, hst, hm⟩ => by
    subst hres
    refine ⟨?_, ?_⟩
    · cases e with
      | returned v => simp only [Rel, List.cons.injEq, and_true] at hm; rw [hm]
      | panicked _ => exact hm.elim
      | outgrown => exact hm.elim
    · have hf := hst.fr
      exact ⟨hf.os, hf.tape, hf.output, hf.size, fun k hk => hf.keep k hk fun ⟨_, _, h, _⟩ => by simp at h⟩
theorem SAll_cons {S : AV → Nat → Prop} {Ss : List (AV → Nat → Prop)} {xs : List (AV × Nat)} (h : SAll (S :: Ss) xs) : ∃ x ys, xs = x :: ys ∧ S x.1 x.2 ∧ SAll Ss ys := by
  cases xs with
  | nil => exact h.elim
  | cons x ys => exact ⟨x, ys, rfl, h.1, h.2⟩
theorem SAll_nil {xs : List (AV × Nat)} (h : SAll [] xs) : xs = [] := by
  cases xs with
  | nil => rfl
  | cons x ys => exact h.elim
theorem fld_cons {H : Type} {enc : TypeId × Value → H} {P : Program} {W : World} {B : DataW H → Nat} {f : Field} {fs : List Field} {S : AV → Nat → Prop} {Ss : List (AV → Nat → Prop)} {off off' total : Nat}
    (h1 : f.offset = off) (h2 : Reads enc P W B f.type S) (h3 : off + P.cellsOf f.type = off') (h4 : FldOK enc P W B fs Ss off' total) : FldOK enc P W B (f :: fs) (S :: Ss) off total := ⟨h1, h2, h3 ▸ h4⟩
theorem fld_nil {H : Type} {enc : TypeId × Value → H} {P : Program} {W : World} {B : DataW H → Nat} {off total : Nat} (h : off = total) : FldOK enc P W B [] [] off total := h
end Go.Sx

namespace Go.Proofs.Ytijhkfhflpmajaa
open Go Go.Sx Go.Rt Go.Proofs Go.ChangeShapes Go.WideShapes Go.ChangeAt Go.RowKit

theorem own9 : ownKnob Try.prog.godebug = none := by kernel_rfl
theorem laid9 : laidOutB Try.prog = true := by kernel_rfl

theorem bulkAll_sum {H : Type} : ∀ (l : List (DataW H)), Rows.uptoBulkAll l = (l.map Rows.uptoBulk).sum
  | [] => by simp [Rows.uptoBulkAll]
  | d :: l => by simp only [Rows.uptoBulkAll, List.map_cons, List.sum_cons]; rw [bulkAll_sum l]
theorem bulkOK {H : Type} : BulkOK (Rows.uptoBulk (H := H)) where
  lit := fun l => by cases l <;> simp [Rows.uptoBulk]
  str := fun s => by simp [Rows.uptoBulk]
  nil := by simp [Rows.uptoBulk]
  slice := fun es sp => by simp only [Rows.uptoBulk]; rw [bulkAll_sum es]; omega
  agg := fun ps => by simp only [Rows.uptoBulk]; rw [bulkAll_sum ps]; omega

section
variable {H : Type} {enc : TypeId × Value → H} {W : World}
def S64 (a : AV) (m : Nat) : Prop := ∃ n, a = .int .i64 n ∧ (Lit.int .i64 n).wf = true ∧ m = 1
def SU8 (a : AV) (m : Nat) : Prop := ∃ n, a = .int .u8 n ∧ (Lit.int .u8 n).wf = true ∧ m = 1
def SStr (a : AV) (m : Nat) : Prop := ∃ s, a = .str s ∧ m = s.length
def SBys := sSl 1 SU8
def SEnt := sAgg [SBys, S64, SBys, S64, S64, S64, SBys]
def SEnts := sSl 7 SEnt
def SFam := sAgg [SStr, S64, S64]
def SFams := sSl 3 SFam
def SSch := sAgg [SFams]

theorem su8_sz (a : AV) (m : Nat) (h : SU8 a m) : a.sz = 1 := by obtain ⟨n, rfl, _⟩ := h; rfl
theorem sBys_av {a : AV} {m : Nat} (h : SBys a m) : ∃ b : List UInt8, a = bys b ∧ b.length + 1 ≤ m := by
  obtain ⟨l, h1, h2, _⟩ := sSl_map (f := byteAV) (q := fun _ => 0) (fun a m ⟨n, h1, h2, h3⟩ => ⟨UInt8.ofNat n.toNat, by
    have hw : 0 ≤ n ∧ n ≤ 255 := by simpa [Lit.wf, IntKind.min, IntKind.max, IntKind.signed, IntKind.bits] using h2
    rw [h1]; simp only [byteAV]
    have : (UInt8.ofNat n.toNat).toNat = n.toNat := by simp; omega
    rw [this]; congr 1; omega, Nat.zero_le _, by omega⟩) h
  exact ⟨l, h1, h2⟩
theorem sEnt_av {a : AV} {m : Nat} (h : SEnt a m) : ∃ e : Ent, a = entAV e ∧ e.row.length + e.qual.length + e.value.length ≤ m ∧ 1 ≤ m := by
  obtain ⟨xs, rfl, hx, rfl⟩ := h
  obtain ⟨x0, xs, rfl, h0, hx⟩ := SAll_cons hx
  obtain ⟨x1, xs, rfl, h1, hx⟩ := SAll_cons hx
  obtain ⟨x2, xs, rfl, h2, hx⟩ := SAll_cons hx
  obtain ⟨x3, xs, rfl, h3, hx⟩ := SAll_cons hx
  obtain ⟨x4, xs, rfl, h4, hx⟩ := SAll_cons hx
  obtain ⟨x5, xs, rfl, h5, hx⟩ := SAll_cons hx
  obtain ⟨x6, xs, rfl, h6, hx⟩ := SAll_cons hx
  obtain rfl := SAll_nil hx
  · obtain ⟨b0, e0, l0⟩ := sBys_av h0
    obtain ⟨n1, e1, _, _⟩ := h1
    obtain ⟨b2, e2, l2⟩ := sBys_av h2
    obtain ⟨n3, e3, _, _⟩ := h3
    obtain ⟨n4, e4, _, _⟩ := h4
    obtain ⟨n5, e5, _, _⟩ := h5
    obtain ⟨b6, e6, l6⟩ := sBys_av h6
    refine ⟨⟨b0, n1, b2, n3, n4, n5, b6⟩, by simp [entAV, e0, e1, e2, e3, e4, e5, e6], ?_, by omega⟩
    simp only [List.map_cons, List.map_nil, List.sum_cons, List.sum_nil]
    omega
theorem sEnts_av {a : AV} {m : Nat} (h : SEnts a m) : ∃ l : List Ent, a = entsAV l ∧ l.length + 1 ≤ m ∧ ∀ e ∈ l, e.row.length + e.qual.length + e.value.length ≤ m :=
  sSl_map (q := fun e : Ent => e.row.length + e.qual.length + e.value.length) (fun a m h => by obtain ⟨e, h1, h2, h3⟩ := sEnt_av h; exact ⟨e, h1, h2, h3⟩) h
theorem sFam_av {a : AV} {m : Nat} (h : SFam a m) : ∃ e : Fml, a = famAV e ∧ 1 ≤ m := by
  obtain ⟨xs, rfl, hx, rfl⟩ := h
  obtain ⟨x0, xs, rfl, h0, hx⟩ := SAll_cons hx
  obtain ⟨x1, xs, rfl, h1, hx⟩ := SAll_cons hx
  obtain ⟨x2, xs, rfl, h2, hx⟩ := SAll_cons hx
  obtain rfl := SAll_nil hx
  · obtain ⟨b0, e0, _⟩ := h0
    obtain ⟨n1, e1, _, _⟩ := h1
    obtain ⟨n2, e2, _, _⟩ := h2
    exact ⟨⟨b0, n1, n2⟩, by simp [famAV, e0, e1, e2], by omega⟩
theorem sSch_av {a : AV} {m : Nat} (h : SSch a m) : ∃ s : List Fml, a = schAV s ∧ s.length ≤ m := by
  obtain ⟨xs, rfl, hx, rfl⟩ := h
  obtain ⟨x0, xs, rfl, h0, hx⟩ := SAll_cons hx
  obtain rfl := SAll_nil hx
  · obtain ⟨l, h1, h2, _⟩ := sSl_map (f := famAV) (q := fun _ => 0) (fun a m h => by obtain ⟨e, h1, h2⟩ := sFam_av h; exact ⟨e, h1, Nat.zero_le _, h2⟩) h0
    refine ⟨l, by simp [schAV, h1], ?_⟩
    simp only [List.map_cons, List.map_nil, List.sum_cons, List.sum_nil]
    omega
theorem r64 : Reads enc Try.prog W Rows.uptoBulk 3 S64 := reads_int bulkOK Try.underlying3
theorem rBys : Reads enc Try.prog W Rows.uptoBulk 36 SBys := reads_slice bulkOK Try.underlying36 (by kernel_rfl) (by decide) (reads_int bulkOK Try.underlying5) su8_sz
theorem rEnt : Reads enc Try.prog W Rows.uptoBulk 38 SEnt := reads_struct bulkOK Try.underlying38
  (fld_cons rfl rBys (off' := 1) (by kernel_rfl) (fld_cons rfl r64 (off' := 2) (by kernel_rfl) (fld_cons rfl rBys (off' := 3) (by kernel_rfl) (fld_cons rfl r64 (off' := 4) (by kernel_rfl) (fld_cons rfl r64 (off' := 5) (by kernel_rfl) (fld_cons rfl r64 (off' := 6) (by kernel_rfl) (fld_cons rfl rBys (off' := 7) (by kernel_rfl) (fld_nil (by kernel_rfl)))))))))
theorem sEnt_sz (a : AV) (m : Nat) (h : SEnt a m) : a.sz = 7 := by obtain ⟨e, rfl, _⟩ := sEnt_av h; exact entAV_sz e
theorem rEnts : Reads enc Try.prog W Rows.uptoBulk 25 SEnts := reads_slice bulkOK Try.underlying25 (by kernel_rfl) (by decide) rEnt sEnt_sz
theorem rFam : Reads enc Try.prog W Rows.uptoBulk 47 SFam := reads_struct bulkOK Try.underlying47
  (fld_cons rfl (reads_str bulkOK Try.underlying9) (off' := 1) (by kernel_rfl) (fld_cons rfl r64 (off' := 2) (by kernel_rfl) (fld_cons rfl r64 (off' := 3) (by kernel_rfl) (fld_nil (by kernel_rfl)))))
theorem sFam_sz (a : AV) (m : Nat) (h : SFam a m) : a.sz = 3 := by obtain ⟨e, rfl, _⟩ := sFam_av h; exact famAV_sz e
theorem rSch : Reads enc Try.prog W Rows.uptoBulk 24 SSch := reads_struct bulkOK Try.underlying24
  (fld_cons rfl (reads_slice bulkOK Try.underlying22 (by kernel_rfl) (by decide) rFam sFam_sz) (off' := 1) (by kernel_rfl) (fld_nil (by kernel_rfl)))

set_option maxRecDepth 100000 in
/-- the arguments: a schema; entries; a number -/
theorem argSch {v : Value} {d : DataW H} {ps : List MemPlace} (hv : Value.okWide Try.prog W .any 0 24 v) (h : DataW.Trod enc Try.prog W 0 (fun _ => true) true 24 v d ps) :
    ∃ s : List Fml, Rel (c0 W) (schAV s) false [v] ∧ s.length ≤ Rows.uptoBulk d := by
  obtain ⟨a, m, h1, h2, h3⟩ := reads_arg rSch h
  obtain ⟨s, rfl, h4⟩ := sSch_av h1
  refine ⟨s, rel_flat h2 (fun _ => ?_) (fun h => by simp [schAV, AV.isAgg] at h), by omega⟩
  obtain ⟨cs, hcs, _⟩ := okWide_struct Try.underlying24 hv
  exact ⟨cs, hcs⟩
set_option maxRecDepth 100000 in
theorem argEnts {v : Value} {d : DataW H} {ps : List MemPlace} (hv : Value.okWide Try.prog W .any 0 25 v) (h : DataW.Trod enc Try.prog W 0 (fun _ => true) true 25 v d ps) :
    ∃ l : List Ent, Rel (c0 W) (entsAV l) false [v] ∧ l.length + 1 ≤ Rows.uptoBulk d ∧ ∀ e ∈ l, e.row.length + e.qual.length + e.value.length ≤ Rows.uptoBulk d := by
  obtain ⟨a, m, h1, h2, h3⟩ := reads_arg rEnts h
  obtain ⟨l, rfl, h4, h5⟩ := sEnts_av h1
  obtain ⟨aa, len, cap, rfl⟩ := okWide_slice Try.underlying25 hv
  exact ⟨l, rel_flat h2 (fun h => by simp [entsAV, AV.isAgg] at h) (fun _ => rfl), by omega, fun e he => by have := h5 e he; omega⟩
set_option maxRecDepth 100000 in
theorem argInt {v : Value} {d : DataW H} {ps : List MemPlace} (hv : Value.okWide Try.prog W .any 0 3 v) (h : DataW.Trod enc Try.prog W 0 (fun _ => true) true 3 v d ps) :
    ∃ n : Int, Rel (c0 W) (.int .i64 n) false [v] ∧ (Lit.int .i64 n).wf = true := by
  obtain ⟨n, rfl, rfl, rfl, hw⟩ := open_int Try.underlying3 hv h
  exact ⟨n, by simp [Rel], hw⟩
end
end Go.Proofs.Ytijhkfhflpmajaa


namespace Go.Proofs.Ytijhkfhflpmajaa
open Go Go.Sx Go.Rt Go.Proofs Go.ChangeShapes Go.WideShapes Go.ChangeAt Go.RowKit
section
variable {H : Type} {enc : TypeId × Value → H} {W : World}
def SInts := sSl 1 S64
end
end Go.Proofs.Ytijhkfhflpmajaa

