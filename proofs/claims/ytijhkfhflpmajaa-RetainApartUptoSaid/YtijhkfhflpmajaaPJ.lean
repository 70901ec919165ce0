/- Own layer: the walks through the book of lists that were handed out. Of the program; no condition. -/
import Derived.Test.YtijhkfhflpmajaaPI
import Derived.Test.YtijhkfhflpmajaaPH
set_option linter.unusedSimpArgs false
set_option linter.unusedVariables false
namespace Go.Proofs.Ytijhkfhflpmajaa
open Go Go.Sx Go.Rt Go.Proofs
theorem c_law_grown (k ver l m : Nat) (hl : l ≤ 140000) (H : Heap) (n : Nat) (hk : k < n) (hH : H k = some (.arr ver 1 (List.replicate l (.int .u8 (m : Int))))) :
    ACalls Try.prog 48 [.osl k ver 0 l, .int .u8 m] H n fun res H' n' => ∃ gk gv L, res = .val (.osl gk gv 0 (2 * l + 70)) ∧ n ≤ n' ∧ gk < n' ∧ (gk = k ∨ n ≤ gk) ∧ l ≤ L ∧ H' k = some (.arr ver 1 (List.replicate L (.int .u8 m))) ∧ H' gk = some (.arr gv 1 (List.replicate (2 * l + 70) (.int .u8 m))) ∧ ∀ j, j < n → j ≠ k → H' j = H j := by
  have hw70 : IntKind.i64.wrap ((l : Int) + 70) = (l : Int) + 70 := w64 (by omega) (by omega)
  refine acalls_of_awp Try.func48 rfl Try.ntmps48 (congrArg Array.toList Try.results48) (by simp) ?_
  simp only [go_sem]
  refine awp_rq zs [0, 1] ?_
  refine awp_rq zs [0, 1, 5] ?_
  refine awp_seq_k fun K1 hK1 => ?_
  refine awp_rq zs [0, 1, 5, 6] ?_
  refine awp_block ?_
  refine awp_loop (fun T' H' n' => ∃ (i gk gv L : Nat), i ≤ l + 70 ∧ T' = tl [(0, .osl k ver 0 l), (1, .int .u8 m), (5, .osl gk gv 0 (l + i)), (6, .int .i64 i)] ∧ n ≤ n' ∧ gk < n' ∧ (gk = k ∨ n ≤ gk) ∧ l ≤ L ∧ H' k = some (.arr ver 1 (List.replicate L (.int .u8 (m : Int)))) ∧ H' gk = some (.arr gv 1 (List.replicate (l + i) (.int .u8 (m : Int)))) ∧ ∀ j, j < n → j ≠ k → H' j = H j) (fun T' _ _ => l + 70 - iv (T' 6)) ?_ ?_
  ·skip
   exact ⟨0, k, ver, l, by omega, rfl, Nat.le_refl _, hk, .inl rfl, Nat.le_refl _, hH, hH, fun j _ _ => rfl⟩
  intro T1 H1 n1
  rintro ⟨i, gk, gv, L, hi, rfl, hn, hgk, hor, hL, hk1, hg1, hrest⟩
  refine awp_seq_k fun K2 hK2 => ?_
  refine awp_reg zs [0, 1, 5, 6, 12] fun K hK => ?_
  try simp only [go_sem, ↓reduceIte, Nat.reduceEqDiff, Nat.reduceLT, Nat.reduceSub, Nat.reduceAdd, Nat.reduceMul, hw70]
  repeat refine peel ?_
  refine hK _ _ _ ?_; clear hK K
  refine awp_cnd (fun hb => ?_) (fun hb => ?_)
  ·skip
   have hlt : i < l + 70 := by have := of_decide_eq_true hb; omega
   refine awp_skip ?_
   try simp only [go_sem, ↓reduceIte, Nat.reduceEqDiff, Nat.reduceLT, Nat.reduceSub, Nat.reduceAdd, Nat.reduceMul]
   refine hK2 _ _ _ ?_
   first | clear hK2 K2 | skip
   refine awp_seq_k fun K3 hK3 => ?_
   refine awp_block ?_
   refine awp_reg_app1 zs [0, 1, 5, 6] 3 rfl (by first | trivial | (show _ < _; decide)) fun K hK => ?_
   try simp only [go_sem, ↓reduceIte, Nat.reduceEqDiff, Nat.reduceLT, Nat.reduceSub, Nat.reduceAdd, Nat.reduceMul, hg1]
   repeat (first | (refine And.intro ?_ ?_; · first | exact ⟨rfl, by decide, by simp [AV.sz, AV.memOK]⟩ | exact ⟨by simp, .inr trivial, by omega, by omega⟩) | refine peel ?_)
   refine AppK.all hgk ?_ hg1
   intro gk2 gv2 H2 n2 hn2 hgk2 hor2 hg2 hk2 hrest2
   try simp only [go_sem, ↓reduceIte, Nat.reduceEqDiff, Nat.reduceLT, Nat.reduceSub, Nat.reduceAdd, Nat.reduceMul, hg1]
   repeat (first | (refine And.intro ?_ ?_; · first | exact ⟨rfl, by decide, by simp [AV.sz, AV.memOK]⟩ | exact ⟨by simp, .inr trivial, by omega, by omega⟩) | refine peel ?_)
   refine hK _ _ _ ?_; clear hK K
   try simp only [go_sem, ↓reduceIte, Nat.reduceEqDiff, Nat.reduceLT, Nat.reduceSub, Nat.reduceAdd, Nat.reduceMul]
   refine hK3 _ _ _ ?_
   first | clear hK3 K3 | skip
   refine awp_reg1 zs [0, 1, 5, 6] fun K hK => ?_
   try simp only [go_sem, ↓reduceIte, Nat.reduceEqDiff, Nat.reduceLT, Nat.reduceSub, Nat.reduceAdd, Nat.reduceMul]
   repeat refine peel ?_
   refine hK _ _ _ ?_; clear hK K
   try simp only [go_sem, ↓reduceIte, Nat.reduceEqDiff, Nat.reduceLT, Nat.reduceSub, Nat.reduceAdd, Nat.reduceMul]
   obtain ⟨L2, hL2, hk3⟩ := grow_old (l := l) (by omega) hk1 hL hg1 hk2 hrest2
   refine ⟨⟨i + 1, gk2, gv2, L2, by omega, by rw [w1 (by omega)]; simp [Nat.add_assoc], by omega, hgk2, ?_, hL2, hk3, by rw [hg2, ← Nat.add_assoc, List.replicate_succ'], fun j h1 h2 => ?_⟩, by rw [w1 (by omega)]; simp; omega⟩
   · rcases hor2 with e | e
     · rw [e]; exact hor
     · exact .inr (by omega)
   · by_cases e : j = gk
     · rcases hor with e2 | e2
       · exact absurd (e.trans e2) h2
       · omega
     · rw [hrest2 j (by omega) e]; exact hrest j h1 h2
  ·skip
   have hge : i = l + 70 := by have := of_decide_eq_false hb; omega
   refine awp_exit ?_
   try simp only [go_sem, ↓reduceIte, Nat.reduceEqDiff, Nat.reduceLT, Nat.reduceSub, Nat.reduceAdd, Nat.reduceMul]
   refine hK1 _ _ _ ?_
   first | clear hK1 K1 | skip
   refine awp_rq zs [4] ?_
   refine awp_ret ?_
   try simp only [go_sem, ↓reduceIte, Nat.reduceEqDiff, Nat.reduceLT, Nat.reduceSub, Nat.reduceAdd, Nat.reduceMul]
   subst hge
   rw [show l + (l + 70) = 2 * l + 70 by omega] at *
   exact ⟨gk, gv, L, rfl, hn, hgk, hor, hL, hk1, hg1, hrest⟩
theorem c_law_keep (was : AV) (hwas : was.sz = 1) (A : BkA) (bs : List BS) (m : Nat) (es : List BS) (p : Nat) (ko ver : Nat) (xs : List LEnt) (H : Heap) (n : Nat) (hobj : H A.kb = (some (.arr 0 6 [.agg [.agg (bookL A bs m es p), was]])))
    (hB : H A.kB = some (.arr A.vB 1 (bs.map BS.av))) (hE : H A.kE = some (.arr A.vE 1 (es.map BS.av))) (hko : H ko = some (.arr ver 7 (xs.map lentAV)))
    (n1 : A.kb ≠ A.kB) (n2 : A.kb ≠ A.kE) (n3 : A.kB ≠ A.kE) (n4 : ko ≠ A.kb) (n5 : ko ≠ A.kB) (n6 : ko ≠ A.kE)
    (hnb : bs.length + 3 * xs.length ≤ 1000000000000) (hne : es.length < 1000000000) :
    ACalls Try.prog 25 [.loc A.kb 0 0 0 [0], .osl ko ver 0 xs.length] H n fun res H' n' => ∃ vB vE, res = .val (.tup []) ∧ n' = n ∧ H' A.kB = some (.arr vB 1 ((bs ++ xs.flatMap newB).map BS.av)) ∧ H' A.kE = some (.arr vE 1 ((es ++ [BS.mk ko ver xs.length 0 0]).map BS.av)) ∧
      H' A.kb = (some (.arr 0 6 [.agg [.agg (bookL { A with vB := vB, vE := vE } (bs ++ xs.flatMap newB) m (es ++ [BS.mk ko ver xs.length 0 0]) p), was]])) ∧ ∀ j, j ≠ A.kb → j ≠ A.kB → j ≠ A.kE → H' j = H j := by
  simp only [bookL] at hobj
  have q1 : (A.kb = A.kB) = False := by simp [n1]
  have q2 : (A.kB = A.kb) = False := by simp [Ne.symm n1]
  have q3 : (A.kb = A.kE) = False := by simp [n2]
  have q4 : (A.kE = A.kb) = False := by simp [Ne.symm n2]
  have q5 : (A.kB = A.kE) = False := by simp [n3]
  have q6 : (A.kE = A.kB) = False := by simp [Ne.symm n3]
  have hxl : (xs.map lentAV).length = xs.length := List.length_map _
  refine acalls_of_awp Try.func25 rfl Try.ntmps25 (congrArg Array.toList Try.results25) (by simp) ?_
  simp only [go_sem]
  refine awp_seq_k fun K1 hK1 => ?_
  refine awp_rq zs [0, 1, 4] ?_
  refine awp_block ?_
  refine awp_loop (fun T' H' n' => ∃ (i : Nat), i ≤ xs.length ∧ T' = tl [(0, .loc A.kb 0 0 0 [0]), (1, .osl ko ver 0 xs.length), (4, .int .i64 i)] ∧ n' = n ∧ H' A.kB = some (.arr (A.vB + i) 1 ((bs ++ (xs.take i).flatMap newB).map BS.av)) ∧ H' A.kb = (some (.arr 0 6 [.agg [.agg ([.osl A.kE A.vE 0 es.length, .osl A.kG A.vG 0 p, .osl A.kB (A.vB + i) 0 (bs.length + 3 * i), .osl A.kH A.vH 0 m, .nilsl]), was]])) ∧ ∀ j, j ≠ A.kb → j ≠ A.kB → H' j = H j) (fun T' _ _ => xs.length - iv (T' 4)) ?_ ?_
  ·skip
   exact ⟨0, Nat.zero_le _, rfl, rfl, by simpa using hB, hobj, fun j _ _ => rfl⟩
  intro T1 H1 n1
  rintro ⟨i, hi, rfl, rfl, hB1, hb1, hrest⟩
  refine awp_seq_k fun K2 hK2 => ?_
  refine awp_rq zs [0, 1, 4, 8] ?_
  refine awp_cnd (fun hb => ?_) (fun hb => ?_)
  ·skip
   have hlt : i < xs.length := by simpa using hb
   have hnth : nth (xs.map lentAV) i = lentAV (xs.getD i default) := nth_map lentAV xs i hlt
   have hko1 : H1 ko = some (.arr ver 7 (xs.map lentAV)) := (hrest ko n4 n5).trans hko
   have hsn := newB_snoc xs i hlt
   have hbl : ((bs ++ (xs.take i).flatMap newB).map BS.av).length = bs.length + 3 * i := by rw [List.length_map, List.length_append, newB_len, List.length_take, Nat.min_eq_left hi]
   generalize xs.getD i default = x at *
   refine awp_skip ?_
   try simp only [go_sem, ↓reduceIte, Nat.reduceEqDiff, Nat.reduceLT, Nat.reduceSub, Nat.reduceAdd, Nat.reduceMul]
   refine hK2 _ _ _ ?_
   first | clear hK2 K2 | skip
   refine awp_seq_k fun K3 hK3 => ?_
   refine awp_block ?_
   refine awp_drw1 rfl zs [0, 1, 4] [.m, .m, .q, .q, .q, .m, .m, .q, .q, .q, .m, .m, .q, .q, .q, .m, .m, .q, .q, .q, .q, .w [], .q, .q, .w []] (by kernel_rfl) (fun _ _ _ _ _ h => h) fun K hK => ?_
   try simp only [go_sem, ↓reduceIte, Nat.reduceEqDiff, Nat.reduceLT, Nat.reduceSub, Nat.reduceAdd, Nat.reduceMul, hB1, hb1, hko1, hnth, hxl, Int.toNat_natCast, q1, q2]
   repeat (first | (refine And.intro ?_ ?_; · first | exact ⟨rfl, by decide, by simp [BS.av, newB, AV.sz, AV.memOK, Lp.av]⟩ | (simp; omega) | exact ⟨by rw [hbl]; omega, .inr trivial, by omega, by omega⟩) | refine peel ?_)
   refine hK _ _ _ ?_; clear hK K
   try simp only [go_sem, ↓reduceIte, Nat.reduceEqDiff, Nat.reduceLT, Nat.reduceSub, Nat.reduceAdd, Nat.reduceMul]
   refine hK3 _ _ _ ?_
   first | clear hK3 K3 | skip
   refine awp_reg1 zs [0, 1, 4] fun K hK => ?_
   try simp only [go_sem, ↓reduceIte, Nat.reduceEqDiff, Nat.reduceLT, Nat.reduceSub, Nat.reduceAdd, Nat.reduceMul]
   repeat refine peel ?_
   refine hK _ _ _ ?_; clear hK K
   try simp only [go_sem, ↓reduceIte, Nat.reduceEqDiff, Nat.reduceLT, Nat.reduceSub, Nat.reduceAdd, Nat.reduceMul]
   refine ⟨⟨i + 1, by omega, by rw [w1 (by omega)], ?_, ?_, fun j h1 h2 => by simp [h1, h2]; exact hrest j h1 h2⟩, by rw [w1 (by omega)]; simp; omega⟩
   · have h9 : List.take (bs.length + 3 * i) (List.map BS.av (bs ++ List.flatMap newB (List.take i xs))) = List.map BS.av (bs ++ List.flatMap newB (List.take i xs)) := List.take_of_length_le (by rw [hbl]; omega)
     simp only [q2, if_false, if_true, h9]
     simp [hsn, newB, BS.av, Lp.av, ← Nat.add_assoc]
   · simp [← Nat.add_assoc, Nat.mul_add, q1]
  ·skip
   have hge : i = xs.length := by simp at hb; omega
   have hE1 : H1 A.kE = some (.arr A.vE 1 (es.map BS.av)) := (hrest _ (Ne.symm n2) (Ne.symm n3)).trans hE
   refine awp_exit ?_
   try simp only [go_sem, ↓reduceIte, Nat.reduceEqDiff, Nat.reduceLT, Nat.reduceSub, Nat.reduceAdd, Nat.reduceMul]
   refine hK1 _ _ _ ?_
   first | clear hK1 K1 | skip
   refine awp_reg1 zs [] fun K hK => ?_
   try simp only [go_sem, ↓reduceIte, Nat.reduceEqDiff, Nat.reduceLT, Nat.reduceSub, Nat.reduceAdd, Nat.reduceMul, hB1, hb1, hE1, q3, q4]
   repeat (first | (refine And.intro ?_ ?_; · first | exact ⟨rfl, by decide, by simp [AV.sz, AV.memOK]⟩ | (simp; omega)) | refine peel ?_)
   refine hK _ _ _ ?_; clear hK K
   try simp only [go_sem, ↓reduceIte, Nat.reduceEqDiff, Nat.reduceLT, Nat.reduceSub, Nat.reduceAdd, Nat.reduceMul]
   try simp only [go_sem, ↓reduceIte, Nat.reduceEqDiff, Nat.reduceLT, Nat.reduceSub, Nat.reduceAdd, Nat.reduceMul]
   refine ⟨A.vB + xs.length, A.vE + 1, ?_, ?_, ?_, fun j h1 h2 h3 => ?_⟩
   · subst hge; simp [q2, q5, hB1, List.take_of_length_le]
   · simp [q4, List.take_of_length_le, BS.av]
   · subst hge; simp [q3, bookL, newB_len, -List.length_flatMap]
   · simp [h1, h3]; exact hrest j h1 h2
structure Sp (was : AV) (H0 : Heap) (n0 : Nat) (tg0 : Nat → Tg) (kb0 : Nat) (bs0 es0 : List BS) (H' : Heap) (n' : Nat) (tg' : Nat → Tg) (A' : BkA) (bs' : List BS) (a m : Nat) (es' : List BS) (c p : Nat) : Prop where
  bk : Bk H' n' tg' A' bs' a m es' c p
  obj : H' A'.kb = (some (.arr 0 6 [.agg [.agg (bookL A' bs' m es' p), was]]))
  kb : A'.kb = kb0
  le : n0 ≤ n'
  lb : bs'.length = bs0.length
  le' : es'.length = es0.length
  free : ∀ j, j < n0 → tg0 j = .free → H' j = H0 j ∧ tg' j = .free
  tag : ∀ j, tg0 j ≠ .free → tg' j = tg0 j
set_option maxHeartbeats 1600000 in
theorem c_law_spoils (was : AV) (hwas : was.sz = 1) (tg : Nat → Tg) (A : BkA) (bs : List BS) (m : Nat) (es : List BS) (p : Nat) (H : Heap) (n : Nat) (hb : Bk H n tg A bs m m es p p) (hobj : H A.kb = (some (.arr 0 6 [.agg [.agg (bookL A bs m es p), was]]))) :
    ACalls Try.prog 26 [.loc A.kb 0 0 0 [0]] H n fun res H' n' => ∃ tg' A' bs' es', res = .val (.tup []) ∧ Sp was H n tg A.kb bs es H' n' tg' A' bs' bs.length bs.length es' es.length es.length := by
  have hobj9 := hobj
  simp only [bookL] at hobj
  have hnb := hb.nb
  have hne := hb.ne
  refine acalls_of_awp Try.func26 rfl Try.ntmps26 (congrArg Array.toList Try.results26) (by simp) ?_
  simp only [go_sem]
  refine awp_reg zs [0, 2] fun K hK => ?_
  try simp only [go_sem, ↓reduceIte, Nat.reduceEqDiff, Nat.reduceLT, Nat.reduceSub, Nat.reduceAdd, Nat.reduceMul, hobj]
  repeat refine peel ?_
  refine hK _ _ _ ?_; clear hK K
  refine awp_reg zs [0, 2, 3] fun K hK => ?_
  try simp only [go_sem, ↓reduceIte, Nat.reduceEqDiff, Nat.reduceLT, Nat.reduceSub, Nat.reduceAdd, Nat.reduceMul, hobj]
  repeat refine peel ?_
  refine hK _ _ _ ?_; clear hK K
  refine awp_seq_k fun K1 hK1 => ?_
  refine awp_rq zs [0, 2, 3, 4] ?_
  refine awp_block ?_
  refine awp_loop (fun T' H' n' => ∃ (i : Nat), m ≤ i ∧ i ≤ bs.length ∧ T' = tl [(0, .loc A.kb 0 0 0 [0]), (2, .int .i64 m), (3, .int .i64 p), (4, .int .i64 i)] ∧ Sp was H n tg A.kb bs es H' n' tg A bs i m es p p) (fun T' _ _ => bs.length - iv (T' 4)) ?_ ?_
  ·skip
   exact ⟨m, Nat.le_refl _, hb.ab, rfl, hb, hobj9, rfl, Nat.le_refl _, rfl, rfl, fun j _ h => ⟨rfl, h⟩, fun j _ => rfl⟩
  intro T1 H1 n1
  rintro ⟨i, hmi, hi, rfl, hS⟩
  have ho1 := hS.obj
  simp only [bookL] at ho1
  have hB1 := hS.bk.lB
  refine awp_seq_k fun K2 hK2 => ?_
  refine awp_reg zs [0, 2, 3, 4, 29] fun K hK => ?_
  try simp only [go_sem, ↓reduceIte, Nat.reduceEqDiff, Nat.reduceLT, Nat.reduceSub, Nat.reduceAdd, Nat.reduceMul, ho1]
  repeat refine peel ?_
  refine hK _ _ _ ?_; clear hK K
  refine awp_cnd (fun hb => ?_) (fun hb => ?_)
  ·skip
   have hlt : i < bs.length := by simpa using hb
   have hnth : nth (bs.map BS.av) i = BS.av (bs.getD i default) := nth_map BS.av bs i hlt
   obtain ⟨ht9, hX, _⟩ := hS.bk.okb i hlt
   obtain ⟨X, hX1, hX2, hX3⟩ := hX (ph0 hmi (Nat.le_refl _))
   obtain ⟨f1, f2, f3, f4, f5⟩ := hS.bk.frame1 (k0 := (bs.getD i default).k) (H' := H1) ht9 (by simp) (fun _ _ => rfl)
   have hmw := markW i (by omega)
   have hlb := hS.bk.lb _ (getD_mem hlt)
   generalize hs9 : bs.getD i default = s at *
   refine awp_skip ?_
   try simp only [go_sem, ↓reduceIte, Nat.reduceEqDiff, Nat.reduceLT, Nat.reduceSub, Nat.reduceAdd, Nat.reduceMul]
   refine hK2 _ _ _ ?_
   first | clear hK2 K2 | skip
   refine awp_seq_k fun K3 hK3 => ?_
   refine awp_block ?_
   refine awp_rq zs [0, 2, 3, 4, 5] ?_
   refine awp_block ?_
   refine awp_loop (fun T' H' n' => ∃ (j : Nat), j ≤ s.l ∧ T' = tl [(0, .loc A.kb 0 0 0 [0]), (2, .int .i64 m), (3, .int .i64 p), (4, .int .i64 i), (5, .int .i64 j)] ∧ n' = n1 ∧ H' s.k = some (.arr s.v 1 (List.replicate j (mkB i) ++ X.drop j)) ∧ ∀ k, k ≠ s.k → H' k = H1 k) (fun T' _ _ => s.l - iv (T' 5)) ?_ ?_
   ·skip
    exact ⟨0, Nat.zero_le _, rfl, rfl, by simpa using hX1, fun k _ => rfl⟩
   intro T1 H1 n1
   rintro ⟨j, hj, rfl, rfl, hk1, hrest⟩
   have ne9 : ∀ {k t}, tg k = t → t ≠ .b i → k ≠ s.k := fun {k t} e1 e2 e => e2 (by rw [← e1, e]; exact ht9)
   have ho2 := (hrest _ (ne9 hS.bk.tb (by simp))).trans ho1
   have hB2 := (hrest _ (ne9 hS.bk.tB (by simp))).trans hB1
   have q1 : (s.k = A.kb) = False := by simp; exact Ne.symm (ne9 hS.bk.tb (by simp))
   refine awp_seq_k fun K4 hK4 => ?_
   refine awp_reg zs [0, 2, 3, 4, 5, 41] fun K hK => ?_
   try simp only [go_sem, ↓reduceIte, Nat.reduceEqDiff, Nat.reduceLT, Nat.reduceSub, Nat.reduceAdd, Nat.reduceMul, ho2, hB2, hnth, Int.toNat_natCast, BS.av]
   repeat refine peel ?_
   refine hK _ _ _ ?_; clear hK K
   refine awp_cnd (fun hb => ?_) (fun hb => ?_)
   ·skip
    have hlj : j < s.l := by simpa using hb
    have hfl := fill_len (mk := mkB i) (X := X) (j := j) (by omega)
    refine awp_skip ?_
    try simp only [go_sem, ↓reduceIte, Nat.reduceEqDiff, Nat.reduceLT, Nat.reduceSub, Nat.reduceAdd, Nat.reduceMul]
    refine hK4 _ _ _ ?_
    first | clear hK4 K4 | skip
    refine awp_seq_k fun K5 hK5 => ?_
    refine awp_block ?_
    refine awp_reg1 zs [0, 2, 3, 4, 5] fun K hK => ?_
    try simp only [go_sem, ↓reduceIte, Nat.reduceEqDiff, Nat.reduceLT, Nat.reduceSub, Nat.reduceAdd, Nat.reduceMul, ho2, hB2, hnth, Int.toNat_natCast, BS.av, hk1, hmw]
    repeat (first | (refine And.intro ?_ ?_; · first | exact ⟨by rw [hfl]; omega, fill_nth (by omega) hX3⟩) | refine peel ?_)
    refine hK _ _ _ ?_; clear hK K
    try simp only [go_sem, ↓reduceIte, Nat.reduceEqDiff, Nat.reduceLT, Nat.reduceSub, Nat.reduceAdd, Nat.reduceMul]
    refine hK5 _ _ _ ?_
    first | clear hK5 K5 | skip
    refine awp_reg1 zs [0, 2, 3, 4, 5] fun K hK => ?_
    try simp only [go_sem, ↓reduceIte, Nat.reduceEqDiff, Nat.reduceLT, Nat.reduceSub, Nat.reduceAdd, Nat.reduceMul]
    repeat refine peel ?_
    refine hK _ _ _ ?_; clear hK K
    try simp only [go_sem, ↓reduceIte, Nat.reduceEqDiff, Nat.reduceLT, Nat.reduceSub, Nat.reduceAdd, Nat.reduceMul]
    refine ⟨⟨j + 1, by omega, by rw [w1 (by omega)], ?_, fun k hk => by rw [if_neg hk]; exact hrest k hk⟩, by rw [w1 (by omega)]; simp; omega⟩
    rw [← fill_step (by omega)]; rfl
   ·skip
    have hje : j = s.l := by simp at hb; omega
    subst hje
    rw [← hX2, fill_all] at hk1
    refine awp_exit ?_
    try simp only [go_sem, ↓reduceIte, Nat.reduceEqDiff, Nat.reduceLT, Nat.reduceSub, Nat.reduceAdd, Nat.reduceMul]
    refine hK3 _ _ _ ?_
    first | clear hK3 K3 | skip
    refine awp_reg1 zs [0, 2, 3, 4] fun K hK => ?_
    try simp only [go_sem, ↓reduceIte, Nat.reduceEqDiff, Nat.reduceLT, Nat.reduceSub, Nat.reduceAdd, Nat.reduceMul]
    repeat refine peel ?_
    refine hK _ _ _ ?_; clear hK K
    try simp only [go_sem, ↓reduceIte, Nat.reduceEqDiff, Nat.reduceLT, Nat.reduceSub, Nat.reduceAdd, Nat.reduceMul]
    refine ⟨⟨i + 1, by omega, by omega, by rw [w1 (by omega)], hS.bk.fill hlt (by rw [hs9, ← hX2]; exact hk1) (by rw [hs9]; exact hrest), (hrest _ (ne9 hS.bk.tb (by simp))).trans hS.obj, hS.kb, hS.le, rfl, rfl, fun j h1 h2 => ⟨(hrest j (ne9 h2 (by simp))).trans (hS.free j h1 h2).1, h2⟩, fun j _ => rfl⟩, by rw [w1 (by omega)]; simp; omega⟩
  ·skip
   have hge : i = bs.length := by simp at hb; omega
   subst hge
   refine awp_exit ?_
   try simp only [go_sem, ↓reduceIte, Nat.reduceEqDiff, Nat.reduceLT, Nat.reduceSub, Nat.reduceAdd, Nat.reduceMul]
   refine hK1 _ _ _ ?_
   first | clear hK1 K1 | skip
   refine awp_seq_k fun K6 hK6 => ?_
   refine awp_rq zs [0, 2, 3, 6] ?_
   refine awp_block ?_
   refine awp_loop (fun T' H' n' => ∃ (i : Nat), p ≤ i ∧ i ≤ es.length ∧ T' = tl [(0, .loc A.kb 0 0 0 [0]), (2, .int .i64 m), (3, .int .i64 p), (6, .int .i64 i)] ∧ Sp was H n tg A.kb bs es H' n' tg A bs bs.length m es i p) (fun T' _ _ => es.length - iv (T' 6)) ?_ ?_
   ·skip
    exact ⟨p, Nat.le_refl _, hS.bk.ce, rfl, hS⟩
   intro T1 H1 n1
   rintro ⟨i, hmi, hi, rfl, hS⟩
   have ho1 := hS.obj
   simp only [bookL] at ho1
   have hE1 := hS.bk.lE
   refine awp_seq_k fun K7 hK7 => ?_
   refine awp_reg zs [0, 2, 3, 6, 64] fun K hK => ?_
   try simp only [go_sem, ↓reduceIte, Nat.reduceEqDiff, Nat.reduceLT, Nat.reduceSub, Nat.reduceAdd, Nat.reduceMul, ho1]
   repeat refine peel ?_
   refine hK _ _ _ ?_; clear hK K
   refine awp_cnd (fun hb => ?_) (fun hb => ?_)
   ·skip
    have hlt : i < es.length := by simpa using hb
    have hnth : nth (es.map BS.av) i = BS.av (es.getD i default) := nth_map BS.av es i hlt
    obtain ⟨ht9, hX, _⟩ := hS.bk.oke i hlt
    obtain ⟨X, hX1, hX2, hX3⟩ := hX (ph0 hmi (Nat.le_refl _))
    have hmw : IntKind.i64.wrap (-10 - (i : Int)) = -10 - (i : Int) := w64 (by omega) (by omega)
    have hlb := hS.bk.le _ (getD_mem hlt)
    generalize hs9 : es.getD i default = s at *
    refine awp_skip ?_
    try simp only [go_sem, ↓reduceIte, Nat.reduceEqDiff, Nat.reduceLT, Nat.reduceSub, Nat.reduceAdd, Nat.reduceMul]
    refine hK7 _ _ _ ?_
    first | clear hK7 K7 | skip
    refine awp_seq_k fun K8 hK8 => ?_
    refine awp_block ?_
    refine awp_rq zs [0, 2, 3, 6, 7] ?_
    refine awp_block ?_
    refine awp_loop (fun T' H' n' => ∃ (j : Nat), j ≤ s.l ∧ T' = tl [(0, .loc A.kb 0 0 0 [0]), (2, .int .i64 m), (3, .int .i64 p), (6, .int .i64 i), (7, .int .i64 j)] ∧ n' = n1 ∧ H' s.k = some (.arr s.v 7 (List.replicate j (mkE i) ++ X.drop j)) ∧ ∀ k, k ≠ s.k → H' k = H1 k) (fun T' _ _ => s.l - iv (T' 7)) ?_ ?_
    ·skip
     exact ⟨0, Nat.zero_le _, rfl, rfl, by simpa using hX1, fun k _ => rfl⟩
    intro T1 H1 n1
    rintro ⟨j, hj, rfl, rfl, hk1, hrest⟩
    have ne9 : ∀ {k t}, tg k = t → t ≠ .e i → k ≠ s.k := fun {k t} e1 e2 e => e2 (by rw [← e1, e]; exact ht9)
    have ho2 := (hrest _ (ne9 hS.bk.tb (by simp))).trans ho1
    have hE2 := (hrest _ (ne9 hS.bk.tE (by simp))).trans hE1
    refine awp_seq_k fun K9 hK9 => ?_
    refine awp_reg zs [0, 2, 3, 6, 7, 76] fun K hK => ?_
    try simp only [go_sem, ↓reduceIte, Nat.reduceEqDiff, Nat.reduceLT, Nat.reduceSub, Nat.reduceAdd, Nat.reduceMul, ho2, hE2, hnth, Int.toNat_natCast, BS.av]
    repeat refine peel ?_
    refine hK _ _ _ ?_; clear hK K
    refine awp_cnd (fun hb => ?_) (fun hb => ?_)
    ·skip
     have hlj : j < s.l := by simpa using hb
     have hfl := fill_len (mk := mkE i) (X := X) (j := j) (by omega)
     refine awp_skip ?_
     try simp only [go_sem, ↓reduceIte, Nat.reduceEqDiff, Nat.reduceLT, Nat.reduceSub, Nat.reduceAdd, Nat.reduceMul]
     refine hK9 _ _ _ ?_
     first | clear hK9 K9 | skip
     refine awp_seq_k fun K10 hK10 => ?_
     refine awp_block ?_
     refine awp_reg1 zs [0, 2, 3, 6, 7] fun K hK => ?_
     try simp only [go_sem, ↓reduceIte, Nat.reduceEqDiff, Nat.reduceLT, Nat.reduceSub, Nat.reduceAdd, Nat.reduceMul, ho2, hE2, hnth, Int.toNat_natCast, BS.av, hk1, hmw]
     repeat (first | (refine And.intro ?_ ?_; · first | exact ⟨by rw [hfl]; omega, fill_nth (by omega) hX3⟩) | refine peel ?_)
     refine hK _ _ _ ?_; clear hK K
     try simp only [go_sem, ↓reduceIte, Nat.reduceEqDiff, Nat.reduceLT, Nat.reduceSub, Nat.reduceAdd, Nat.reduceMul]
     refine hK10 _ _ _ ?_
     first | clear hK10 K10 | skip
     refine awp_reg1 zs [0, 2, 3, 6, 7] fun K hK => ?_
     try simp only [go_sem, ↓reduceIte, Nat.reduceEqDiff, Nat.reduceLT, Nat.reduceSub, Nat.reduceAdd, Nat.reduceMul]
     repeat refine peel ?_
     refine hK _ _ _ ?_; clear hK K
     try simp only [go_sem, ↓reduceIte, Nat.reduceEqDiff, Nat.reduceLT, Nat.reduceSub, Nat.reduceAdd, Nat.reduceMul]
     refine ⟨⟨j + 1, by omega, by rw [w1 (by omega)], ?_, fun k hk => by rw [if_neg hk]; exact hrest k hk⟩, by rw [w1 (by omega)]; simp; omega⟩
     rw [← fill_step (by omega)]; rfl
    ·skip
     have hje : j = s.l := by simp at hb; omega
     subst hje
     rw [← hX2, fill_all] at hk1
     refine awp_exit ?_
     try simp only [go_sem, ↓reduceIte, Nat.reduceEqDiff, Nat.reduceLT, Nat.reduceSub, Nat.reduceAdd, Nat.reduceMul]
     refine hK8 _ _ _ ?_
     first | clear hK8 K8 | skip
     refine awp_reg1 zs [0, 2, 3, 6] fun K hK => ?_
     try simp only [go_sem, ↓reduceIte, Nat.reduceEqDiff, Nat.reduceLT, Nat.reduceSub, Nat.reduceAdd, Nat.reduceMul]
     repeat refine peel ?_
     refine hK _ _ _ ?_; clear hK K
     try simp only [go_sem, ↓reduceIte, Nat.reduceEqDiff, Nat.reduceLT, Nat.reduceSub, Nat.reduceAdd, Nat.reduceMul]
     refine ⟨⟨i + 1, by omega, by omega, by rw [w1 (by omega)], hS.bk.fillE hlt (by rw [hs9, ← hX2]; exact hk1) (by rw [hs9]; exact hrest), (hrest _ (ne9 hS.bk.tb (by simp))).trans hS.obj, hS.kb, hS.le, rfl, rfl, fun j h1 h2 => ⟨(hrest j (ne9 h2 (by simp))).trans (hS.free j h1 h2).1, h2⟩, fun j _ => rfl⟩, by rw [w1 (by omega)]; simp; omega⟩
   ·skip
    have hge : i = es.length := by simp at hb; omega
    subst hge
    refine awp_exit ?_
    try simp only [go_sem, ↓reduceIte, Nat.reduceEqDiff, Nat.reduceLT, Nat.reduceSub, Nat.reduceAdd, Nat.reduceMul]
    refine hK6 _ _ _ ?_
    first | clear hK6 K6 | skip
    refine awp_seq_k fun K11 hK11 => ?_
    refine awp_rq zs [0, 3, 8] ?_
    refine awp_block ?_
    refine awp_loop (fun T' H' n' => ∃ (i : Nat) (tg' : Nat → Tg) (A' : BkA) (bs' : List BS), m ≤ i ∧ i ≤ bs.length ∧ T' = tl [(0, .loc A.kb 0 0 0 [0]), (3, .int .i64 p), (8, .int .i64 i)] ∧ Sp was H n tg A.kb bs es H' n' tg' A' bs' bs.length i es es.length p) (fun T' _ _ => bs.length - iv (T' 8)) ?_ ?_
    ·skip
     exact ⟨m, tg, A, bs, Nat.le_refl _, by have := hS.bk.ma; omega, rfl, hS⟩
    intro T1 H1 n1
    rintro ⟨i, tg', A', bs', hmi, hi, rfl, hS⟩
    have hkb := hS.kb
    rw [← hkb]
    have ho1 := hS.obj
    simp only [bookL] at ho1
    have hB1 := hS.bk.lB
    have hH1 := hS.bk.lH
    have hlb4 := hS.lb
    have qH1 : (A'.kb = A'.kH) = False := by simp; intro e; have h1 := hS.bk.tb; rw [e, hS.bk.tH] at h1; simp at h1
    have qH2 : (A'.kH = A'.kb) = False := by simp; intro e; have h1 := hS.bk.tb; rw [← e, hS.bk.tH] at h1; simp at h1
    have r1 : (0 : Nat) = 0 := rfl
    have r2 : (0 : Nat) = 0 := rfl
    refine awp_seq_k fun K12 hK12 => ?_
    refine awp_reg zs [0, 3, 8, 98] fun K hK => ?_
    try simp only [go_sem, ↓reduceIte, Nat.reduceEqDiff, Nat.reduceLT, Nat.reduceSub, Nat.reduceAdd, Nat.reduceMul, ho1]
    repeat refine peel ?_
    refine hK _ _ _ ?_; clear hK K
    refine awp_cnd (fun hb => ?_) (fun hb => ?_)
    ·skip
     have hlt : i < bs'.length := by simpa using hb
     have hnth : nth (bs'.map BS.av) i = BS.av (bs'.getD i default) := nth_map BS.av bs' i hlt
     obtain ⟨ht9, _, hX, _⟩ := hS.bk.okb i hlt
     have hX := hX (ph1 (Nat.le_refl _) (by omega))
     have hmw := markW i (by omega)
     have hlb := hS.bk.lb _ (getD_mem hlt)
     have hskn : (bs'.getD i default).k < n1 := hS.bk.lt _ (by rw [ht9]; simp)
     have hgl : ((bs'.take i).map BS.gav).length = i := by simp; omega
     generalize hs9 : bs'.getD i default = s at *
     have ne9 : ∀ {k t}, tg' k = t → t ≠ .b i → k ≠ s.k := fun {k t} e1 e2 e => e2 (by rw [← e1, e]; exact ht9)
     refine awp_skip ?_
     try simp only [go_sem, ↓reduceIte, Nat.reduceEqDiff, Nat.reduceLT, Nat.reduceSub, Nat.reduceAdd, Nat.reduceMul]
     refine hK12 _ _ _ ?_
     first | clear hK12 K12 | skip
     refine awp_seq_k fun K13 hK13 => ?_
     refine awp_block ?_
     refine awp_drp1 rfl zs [0, 3, 8] [.m, .m, .q, .q, .q, .m, .q, .q, .q, .m, .q, .q, .m, .q, .q, .q, .w [2, 3, 4], .q, .w [], .q, .q, .w []] [0, 1, 2, 3, 4, 5, 6, 7, 8, 9, 10, 11, 12, 13, 14, 15, 16, 17, 18, 19, 20, 21] [0, 1, 2, 3, 4, 5, 6, 7, 8, 9, 10, 11, 12, 13, 14, 15, 16, 17, 18, 19, 20, 21] (by kernel_rfl) (fun _ _ _ _ _ h => h) fun K hK => ?_
     try simp only [go_sem, ↓reduceIte, Nat.reduceEqDiff, Nat.reduceLT, Nat.reduceSub, Nat.reduceAdd, Nat.reduceMul, ho1, hB1, hH1, hnth, Int.toNat_natCast, BS.av, hmw, r1, r2, qH1, qH2]
     repeat (first | (refine And.intro ?_ ?_; · first | exact ⟨rfl, by decide, by simp [AV.sz, AV.memOK]⟩ | exact ⟨by rw [hgl]; omega, .inr trivial, by omega, by omega⟩ | exact ⟨by omega, by omega⟩) | refine peel ?_)
     refine callK_useK (args' := [.osl s.k s.v 0 s.l, .int .u8 ((1 + i % 250 : Nat) : Int)]) Try.func48 rfl rfl rfl (c_law_grown s.k s.v s.l (1 + i % 250) hlb _ _ hskn hX) ?_ ?_
     rotate_left
     · intro p H' n' h; obtain ⟨_, _, _, hx, _⟩ := h; cases hx
     rintro r H2 n2 ⟨gk, gv, L, hr2, hn2, hgk2, hor2, hL2, hk2, hg2, hrest2⟩
     cases hr2
     have r1 := (hrest2 _ (hS.bk.lt _ (by rw [hS.bk.tb]; simp)) (ne9 hS.bk.tb (by simp))).trans ho1
     have r2 := (hrest2 _ (hS.bk.lt _ (by rw [hS.bk.tH]; simp)) (ne9 hS.bk.tH (by simp))).trans hH1
     try simp only [go_sem, ↓reduceIte, Nat.reduceEqDiff, Nat.reduceLT, Nat.reduceSub, Nat.reduceAdd, Nat.reduceMul, ho1, hB1, hH1, hnth, Int.toNat_natCast, BS.av, hmw, r1, r2, qH1, qH2]
     repeat (first | (refine And.intro ?_ ?_; · first | exact ⟨rfl, by decide, by simp [AV.sz, AV.memOK]⟩ | exact ⟨by rw [hgl]; omega, .inr trivial, by omega, by omega⟩ | exact ⟨by omega, by omega⟩) | refine peel ?_)
     refine hK _ _ _ ?_; clear hK K
     try simp only [go_sem, ↓reduceIte, Nat.reduceEqDiff, Nat.reduceLT, Nat.reduceSub, Nat.reduceAdd, Nat.reduceMul]
     refine hK13 _ _ _ ?_
     first | clear hK13 K13 | skip
     refine awp_reg1 zs [0, 3, 8] fun K hK => ?_
     try simp only [go_sem, ↓reduceIte, Nat.reduceEqDiff, Nat.reduceLT, Nat.reduceSub, Nat.reduceAdd, Nat.reduceMul]
     repeat refine peel ?_
     refine hK _ _ _ ?_; clear hK K
     try simp only [go_sem, ↓reduceIte, Nat.reduceEqDiff, Nat.reduceLT, Nat.reduceSub, Nat.reduceAdd, Nat.reduceMul]
     have hgt : tg' gk = .b i ∨ tg' gk = .free := by rcases hor2 with e | e; rw [e]; exact .inl ht9; exact .inr (Classical.byContradiction fun hne => by have := hS.bk.lt gk hne; omega)
     refine ⟨⟨i + 1, tgPut tg' gk (.b i), { A' with vH := A'.vH + 1 }, bs'.set i { s with gk := gk, gv := gv }, by omega, by omega, by rw [w1 (by omega)], ?_⟩, by rw [w1 (by omega)]; simp; omega⟩
     have hH9 : ∀ k, k ≠ A'.kH → k ≠ A'.kb → ∀ o o', ((H2.put A'.kH o).put A'.kb o') k = H2 k := fun k h1 h2 o o' => (Heap.put_ne _ _ h2).trans (Heap.put_ne _ _ h1)
     have nsk : s.k ≠ A'.kH ∧ s.k ≠ A'.kb := ⟨Ne.symm (ne9 hS.bk.tH (by simp)), Ne.symm (ne9 hS.bk.tb (by simp))⟩
     have ngk : gk ≠ A'.kH ∧ gk ≠ A'.kb := ⟨fun e => by rw [e, hS.bk.tH] at hgt; simp at hgt, fun e => by rw [e, hS.bk.tb] at hgt; simp at hgt⟩
     refine ⟨?_, ?_, rfl, by have := hS.le; omega, by simp [hS.lb], rfl, fun j h1 h2 => ?_, fun j hj => ?_⟩
     · have := hS.bk.grow (H' := (H2.put A'.kH (some (.arr (A'.vH + 1) 1 (List.take i (List.map BS.gav (List.take i bs')) ++ [.osl gk gv 0 (2 * s.l + 70)])))).put A'.kb (some (.arr 0 6 [.agg [.agg ([.osl A'.kE A'.vE 0 es.length, .osl A'.kG A'.vG 0 p, .osl A'.kB A'.vB 0 bs'.length, .osl A'.kH (A'.vH + 1) 0 (i + 1), .nilsl]), was]]))) (n' := n2) (m := i) (by omega) (by omega) (gk := gk) (gv := gv) (L := L) (by rw [hs9]; exact hor2) hgk2 (by rw [hs9]; exact hL2) (by rw [hs9, hH9 _ nsk.1 nsk.2]; exact hk2) (by rw [hs9, hH9 _ ngk.1 ngk.2]; exact hg2) (vH := A'.vH + 1) (by rw [hs9, Heap.put_ne _ _ (by simpa using qH2), Heap.put_same, List.take_of_length_le (by rw [hgl]; omega)]) (fun k h1 h2 h3 h4 => by rw [hs9] at h2; rw [hH9 _ h3 h4]; exact hrest2 k (hS.bk.lt k h1) h2)
       rw [hs9] at this
       exact this
     · simp [bookL, Heap.put]
     · obtain ⟨g1, g2⟩ := hS.free j h1 h2
       refine ⟨?_, ?_⟩
       · rw [hH9 _ (fun e => by rw [e, hS.bk.tH] at g2; simp at g2) (fun e => by rw [e, hS.bk.tb] at g2; simp at g2), hrest2 j (by have := hS.le; omega) (ne9 g2 (by simp))]; exact g1
       · unfold tgPut; rw [if_neg (fun e => ?_)]; exact g2
         rcases hor2 with e2 | e2
         · exact ne9 g2 (by simp) (e.trans e2)
         · have := hS.le; omega
     · rw [tgPut_keep hgt (by rw [hS.tag j hj]; exact hj)]; exact hS.tag j hj
    ·skip
     have hge : i = bs.length := by simp at hb; omega
     subst hge
     refine awp_exit ?_
     try simp only [go_sem, ↓reduceIte, Nat.reduceEqDiff, Nat.reduceLT, Nat.reduceSub, Nat.reduceAdd, Nat.reduceMul]
     refine hK11 _ _ _ ?_
     first | clear hK11 K11 | skip
     refine awp_rq zs [0, 9] ?_
     refine awp_block ?_
     refine awp_loop (fun T' H' n' => ∃ (i : Nat) (tg' : Nat → Tg) (A' : BkA) (bs' es' : List BS), p ≤ i ∧ i ≤ es.length ∧ T' = tl [(0, .loc A.kb 0 0 0 [0]), (9, .int .i64 i)] ∧ Sp was H n tg A.kb bs es H' n' tg' A' bs' bs.length bs.length es' es.length i) (fun T' _ _ => es.length - iv (T' 9)) ?_ ?_
     ·skip
      rw [hkb]; exact ⟨p, tg', A', bs', es, Nat.le_refl _, by have := hS.bk.pc; omega, rfl, hS⟩
     intro T1 H1 n1
     rintro ⟨i, tg', A', bs', es', hmi, hi, rfl, hS⟩
     have hkb := hS.kb
     rw [← hkb]
     have ho1 := hS.obj
     simp only [bookL] at ho1
     have hE1 := hS.bk.lE
     have hG1 := hS.bk.lG
     have hle4 := hS.le'
     have qG1 : (A'.kb = A'.kG) = False := by simp; intro e; have h1 := hS.bk.tb; rw [e, hS.bk.tG] at h1; simp at h1
     have qG2 : (A'.kG = A'.kb) = False := by simp; intro e; have h1 := hS.bk.tb; rw [← e, hS.bk.tG] at h1; simp at h1
     refine awp_seq_k fun K14 hK14 => ?_
     refine awp_reg zs [0, 9, 129] fun K hK => ?_
     try simp only [go_sem, ↓reduceIte, Nat.reduceEqDiff, Nat.reduceLT, Nat.reduceSub, Nat.reduceAdd, Nat.reduceMul, ho1]
     repeat refine peel ?_
     refine hK _ _ _ ?_; clear hK K
     refine awp_cnd (fun hb => ?_) (fun hb => ?_)
     ·skip
      have hlt : i < es'.length := by simpa using hb
      have hnth : nth (es'.map BS.av) i = BS.av (es'.getD i default) := nth_map BS.av es' i hlt
      obtain ⟨ht9, _, hX, _⟩ := hS.bk.oke i hlt
      have hX := hX (ph1 (Nat.le_refl _) (by omega))
      have hmw : IntKind.i64.wrap (-10 - (i : Int)) = -10 - (i : Int) := w64 (by omega) (by omega)
      have hlb := hS.bk.le _ (getD_mem hlt)
      have hskn : (es'.getD i default).k < n1 := hS.bk.lt _ (by rw [ht9]; simp)
      have hgl : ((es'.take i).map ES.gav).length = i := by simp; omega
      generalize hs9 : es'.getD i default = s at *
      have ne9 : ∀ {k t}, tg' k = t → t ≠ .e i → k ≠ s.k := fun {k t} e1 e2 e => e2 (by rw [← e1, e]; exact ht9)
      have hw1 : IntKind.i64.wrap (2 * (s.l : Int)) = 2 * (s.l : Int) := w64 (by omega) (by omega)
      have hw2 : IntKind.i64.wrap (2 * (s.l : Int) + 20) = 2 * (s.l : Int) + 20 := w64 (by omega) (by omega)
      refine awp_skip ?_
      try simp only [go_sem, ↓reduceIte, Nat.reduceEqDiff, Nat.reduceLT, Nat.reduceSub, Nat.reduceAdd, Nat.reduceMul]
      refine hK14 _ _ _ ?_
      first | clear hK14 K14 | skip
      refine awp_seq_k fun K15 hK15 => ?_
      refine awp_block ?_
      refine awp_reg zs [0, 9, 10] fun K hK => ?_
      try simp only [go_sem, ↓reduceIte, Nat.reduceEqDiff, Nat.reduceLT, Nat.reduceSub, Nat.reduceAdd, Nat.reduceMul, ho1, hE1, hnth, Int.toNat_natCast, BS.av]
      repeat refine peel ?_
      refine hK _ _ _ ?_; clear hK K
      refine awp_seq_k fun K16 hK16 => ?_
      refine awp_rq zs [0, 9, 10, 11] ?_
      refine awp_block ?_
      refine awp_loop (fun T' H' n' => ∃ (j gk gv L : Nat), j ≤ 2 * s.l + 20 ∧ T' = tl [(0, .loc A'.kb 0 0 0 [0]), (9, .int .i64 i), (10, .osl gk gv 0 (s.l + j)), (11, .int .i64 j)] ∧ n1 ≤ n' ∧ gk < n' ∧ (gk = s.k ∨ n1 ≤ gk) ∧ s.l ≤ L ∧ H' s.k = some (.arr s.v 7 (List.replicate L (mkE i))) ∧ H' gk = some (.arr gv 7 (List.replicate (s.l + j) (mkE i))) ∧ ∀ k, k < n1 → k ≠ s.k → H' k = H1 k) (fun T' _ _ => 2 * s.l + 20 - iv (T' 11)) ?_ ?_
      ·skip
       exact ⟨0, s.k, s.v, s.l, by omega, rfl, Nat.le_refl _, hskn, .inl rfl, Nat.le_refl _, hX, hX, fun k _ _ => rfl⟩
      intro T1 H1 n1
      rintro ⟨j, gk, gv, L, hj, rfl, hn6, hgk, hor, hL, hk1, hg1, hrest⟩
      have ho2 := (hrest _ (hS.bk.lt _ (by rw [hS.bk.tb]; simp)) (ne9 hS.bk.tb (by simp))).trans ho1
      have hE2 := (hrest _ (hS.bk.lt _ (by rw [hS.bk.tE]; simp)) (ne9 hS.bk.tE (by simp))).trans hE1
      have hG2 := (hrest _ (hS.bk.lt _ (by rw [hS.bk.tG]; simp)) (ne9 hS.bk.tG (by simp))).trans hG1
      refine awp_seq_k fun K17 hK17 => ?_
      refine awp_reg zs [0, 9, 10, 11, 150] fun K hK => ?_
      try simp only [go_sem, ↓reduceIte, Nat.reduceEqDiff, Nat.reduceLT, Nat.reduceSub, Nat.reduceAdd, Nat.reduceMul, ho2, hE2, hnth, Int.toNat_natCast, BS.av, hw1, hw2]
      repeat refine peel ?_
      refine hK _ _ _ ?_; clear hK K
      refine awp_cnd (fun hb => ?_) (fun hb => ?_)
      ·skip
       have hlj : j < 2 * s.l + 20 := by have := of_decide_eq_true hb; omega
       refine awp_skip ?_
       try simp only [go_sem, ↓reduceIte, Nat.reduceEqDiff, Nat.reduceLT, Nat.reduceSub, Nat.reduceAdd, Nat.reduceMul]
       refine hK17 _ _ _ ?_
       first | clear hK17 K17 | skip
       refine awp_seq_k fun K18 hK18 => ?_
       refine awp_block ?_
       refine awp_reg_app1 zs [0, 9, 10, 11] 5 rfl (by first | trivial | (show _ < _; decide)) fun K hK => ?_
       try simp only [go_sem, ↓reduceIte, Nat.reduceEqDiff, Nat.reduceLT, Nat.reduceSub, Nat.reduceAdd, Nat.reduceMul, hg1, hmw]
       repeat (first | (refine And.intro ?_ ?_; · first | exact ⟨rfl, by decide, by simp [AV.sz, AV.szs, AV.memOK]⟩ | exact ⟨by simp, .inr trivial, by omega, by omega⟩) | refine peel ?_)
       refine AppK.all hgk ?_ hg1
       intro gk2 gv2 H2 n2 hn2 hgk2 hor2 hg2 hk2 hrest2
       try simp only [go_sem, ↓reduceIte, Nat.reduceEqDiff, Nat.reduceLT, Nat.reduceSub, Nat.reduceAdd, Nat.reduceMul, hg1, hmw]
       repeat (first | (refine And.intro ?_ ?_; · first | exact ⟨rfl, by decide, by simp [AV.sz, AV.szs, AV.memOK]⟩ | exact ⟨by simp, .inr trivial, by omega, by omega⟩) | refine peel ?_)
       refine hK _ _ _ ?_; clear hK K
       try simp only [go_sem, ↓reduceIte, Nat.reduceEqDiff, Nat.reduceLT, Nat.reduceSub, Nat.reduceAdd, Nat.reduceMul]
       refine hK18 _ _ _ ?_
       first | clear hK18 K18 | skip
       refine awp_reg1 zs [0, 9, 10, 11] fun K hK => ?_
       try simp only [go_sem, ↓reduceIte, Nat.reduceEqDiff, Nat.reduceLT, Nat.reduceSub, Nat.reduceAdd, Nat.reduceMul]
       repeat refine peel ?_
       refine hK _ _ _ ?_; clear hK K
       try simp only [go_sem, ↓reduceIte, Nat.reduceEqDiff, Nat.reduceLT, Nat.reduceSub, Nat.reduceAdd, Nat.reduceMul]
       obtain ⟨L2, hL2, hk3⟩ := grow_old (mk := mkE i) (l := s.l) (by omega) hk1 hL hg1 hk2 hrest2
       refine ⟨⟨j + 1, gk2, gv2, L2, by omega, by rw [w1 (by omega)]; simp [Nat.add_assoc], by omega, hgk2, ?_, hL2, hk3, by rw [hg2, ← Nat.add_assoc, List.replicate_succ']; rfl, fun k h1 h2 => ?_⟩, by rw [w1 (by omega)]; simp; omega⟩
       · rcases hor2 with e | e
         · rw [e]; exact hor
         · exact .inr (by omega)
       · by_cases e : k = gk
         · rcases hor with e2 | e2
           · exact absurd (e.trans e2) h2
           · omega
         · rw [hrest2 k (by omega) e]; exact hrest k h1 h2
      ·skip
       have hge : j = 2 * s.l + 20 := by have := of_decide_eq_false hb; omega
       subst hge
       rw [show s.l + (2 * s.l + 20) = 3 * s.l + 20 by omega] at *
       refine awp_exit ?_
       try simp only [go_sem, ↓reduceIte, Nat.reduceEqDiff, Nat.reduceLT, Nat.reduceSub, Nat.reduceAdd, Nat.reduceMul]
       refine hK16 _ _ _ ?_
       first | clear hK16 K16 | skip
       refine awp_reg1 zs [0, 9] fun K hK => ?_
       try simp only [go_sem, ↓reduceIte, Nat.reduceEqDiff, Nat.reduceLT, Nat.reduceSub, Nat.reduceAdd, Nat.reduceMul, ho2, hG2, qG1, qG2]
       repeat (first | (refine And.intro ?_ ?_; · first | exact ⟨rfl, by decide, by simp [AV.sz, AV.memOK]⟩ | exact ⟨by rw [hgl]; omega, .inr trivial, by omega, by omega⟩ | exact ⟨by omega, by omega⟩) | refine peel ?_)
       refine hK _ _ _ ?_; clear hK K
       try simp only [go_sem, ↓reduceIte, Nat.reduceEqDiff, Nat.reduceLT, Nat.reduceSub, Nat.reduceAdd, Nat.reduceMul]
       refine hK15 _ _ _ ?_
       first | clear hK15 K15 | skip
       refine awp_reg1 zs [0, 9] fun K hK => ?_
       try simp only [go_sem, ↓reduceIte, Nat.reduceEqDiff, Nat.reduceLT, Nat.reduceSub, Nat.reduceAdd, Nat.reduceMul]
       repeat refine peel ?_
       refine hK _ _ _ ?_; clear hK K
       try simp only [go_sem, ↓reduceIte, Nat.reduceEqDiff, Nat.reduceLT, Nat.reduceSub, Nat.reduceAdd, Nat.reduceMul]
       have hgt : tg' gk = .e i ∨ tg' gk = .free := by rcases hor with e | e; rw [e]; exact .inl ht9; exact .inr (Classical.byContradiction fun hne => by have := hS.bk.lt gk hne; omega)
       have hH9 : ∀ k, k ≠ A'.kG → k ≠ A'.kb → ∀ (G : Heap) o o', ((G.put A'.kG o).put A'.kb o') k = G k := fun k h1 h2 G o o' => (Heap.put_ne _ _ h2).trans (Heap.put_ne _ _ h1)
       have nsk : s.k ≠ A'.kG ∧ s.k ≠ A'.kb := ⟨Ne.symm (ne9 hS.bk.tG (by simp)), Ne.symm (ne9 hS.bk.tb (by simp))⟩
       have ngk : gk ≠ A'.kG ∧ gk ≠ A'.kb := ⟨fun e => by rw [e, hS.bk.tG] at hgt; simp at hgt, fun e => by rw [e, hS.bk.tb] at hgt; simp at hgt⟩
       refine ⟨⟨i + 1, tgPut tg' gk (.e i), { A' with vG := A'.vG + 1 }, bs', es'.set i { s with gk := gk, gv := gv }, by omega, by omega, by rw [w1 (by omega)], ?_⟩, by rw [w1 (by omega)]; simp; omega⟩
       refine ⟨?_, ?_, rfl, by have := hS.le; omega, hS.lb, by simp [hS.le'], fun j h1 h2 => ?_, fun j hj => ?_⟩
       · have := hS.bk.growE (H' := (H1.put A'.kG (some (.arr (A'.vG + 1) 1 (List.take i (List.map ES.gav (List.take i es')) ++ [.osl gk gv 0 (3 * s.l + 20)])))).put A'.kb (some (.arr 0 6 [.agg [.agg ([.osl A'.kE A'.vE 0 es'.length, .osl A'.kG (A'.vG + 1) 0 (i + 1), .osl A'.kB A'.vB 0 bs'.length, .osl A'.kH A'.vH 0 bs.length, .nilsl]), was]]))) (n' := n1) (p := i) (by omega) (by omega) (gk := gk) (gv := gv) (L := L) (by rw [hs9]; exact hor) hgk (by rw [hs9]; exact hL) (by rw [hs9, hH9 _ nsk.1 nsk.2]; exact hk1) (by rw [hs9, hH9 _ ngk.1 ngk.2]; exact hg1) (vG := A'.vG + 1) (by rw [hs9, Heap.put_ne _ _ (by simpa using qG2), Heap.put_same, List.take_of_length_le (by rw [hgl]; omega)]) (fun k h1 h2 h3 h4 => by rw [hs9] at h2; rw [hH9 _ h3 h4]; exact hrest k (hS.bk.lt k h1) h2)
         rw [hs9] at this
         exact this
       · simp [bookL, Heap.put]
       · obtain ⟨g1, g2⟩ := hS.free j h1 h2
         refine ⟨?_, ?_⟩
         · rw [hH9 _ (fun e => by rw [e, hS.bk.tG] at g2; simp at g2) (fun e => by rw [e, hS.bk.tb] at g2; simp at g2), hrest j (by have := hS.le; omega) (ne9 g2 (by simp))]; exact g1
         · unfold tgPut; rw [if_neg (fun e => ?_)]; exact g2
           rcases hor with e2 | e2
           · exact ne9 g2 (by simp) (e.trans e2)
           · have := hS.le; omega
       · rw [tgPut_keep hgt (by rw [hS.tag j hj]; exact hj)]; exact hS.tag j hj
     ·skip
      have hge : i = es.length := by simp at hb; omega
      subst hge
      refine awp_exit ?_
      try simp only [go_sem, ↓reduceIte, Nat.reduceEqDiff, Nat.reduceLT, Nat.reduceSub, Nat.reduceAdd, Nat.reduceMul]
      exact ⟨tg', A', bs', es', by rw [hkb]; exact hS⟩
theorem nth_rep {a : AV} {n j : Nat} (h : j < n) : nth (List.replicate n a) j = a := by simp [nth, List.getD, h]
set_option maxRecDepth 100000 in
set_option maxHeartbeats 1600000 in
theorem c_law_stands (was : AV) (tg : Nat → Tg) (A : BkA) (bs : List BS) (es : List BS) (H : Heap) (n : Nat) (hb0 : Bk H n tg A bs bs.length bs.length es es.length es.length) (hobj : H A.kb = (some (.arr 0 6 [.agg [.agg (bookL A bs bs.length es es.length), was]]))) :
    Ret Try.prog 27 [.loc A.kb 0 0 0 [0]] H n (.bool true) H n := by
  simp only [bookL] at hobj
  have hnb := hb0.nb
  have hne := hb0.ne
  have hB := hb0.lB
  have hH := hb0.lH
  have hE := hb0.lE
  have hG := hb0.lG
  rw [List.take_length] at hH hG
  refine acalls_of_awp Try.func27 rfl Try.ntmps27 (congrArg Array.toList Try.results27) (by simp) ?_
  simp only [go_sem]
  refine awp_rq zs [0] ?_
  refine awp_seq_k fun K1 hK1 => ?_
  refine awp_rq zs [0, 3] ?_
  refine awp_block ?_
  refine awp_loop (fun T' H' n' => ∃ (i : Nat), i ≤ bs.length ∧ T' = tl [(0, .loc A.kb 0 0 0 [0]), (3, .int .i64 i)] ∧ H' = H ∧ n' = n) (fun T' _ _ => bs.length - iv (T' 3)) ?_ ?_
  ·skip
   exact ⟨0, Nat.zero_le _, rfl, rfl, rfl⟩
  intro T1 H1 n1
  rintro ⟨i, hi, rfl, rfl, rfl⟩
  refine awp_seq_k fun K2 hK2 => ?_
  refine awp_reg zs [0, 3, 13] fun K hK => ?_
  try simp only [go_sem, ↓reduceIte, Nat.reduceEqDiff, Nat.reduceLT, Nat.reduceSub, Nat.reduceAdd, Nat.reduceMul, hobj]
  repeat refine peel ?_
  refine hK _ _ _ ?_; clear hK K
  refine awp_cnd (fun hb => ?_) (fun hb => ?_)
  ·skip
   have hlt : i < bs.length := by simpa using hb
   have hnth : nth (bs.map BS.av) i = BS.av (bs.getD i default) := nth_map BS.av bs i hlt
   have hntg : nth (bs.map BS.gav) i = BS.gav (bs.getD i default) := nth_map BS.gav bs i hlt
   obtain ⟨_, _, _, hX⟩ := hb0.okb i hlt
   obtain ⟨⟨L, hL, hk1⟩, _, hg1⟩ := hX (ph2 hlt)
   have hmw := markW i (by omega)
   have hlb := hb0.lb _ (getD_mem hlt)
   generalize hs9 : bs.getD i default = s at *
   refine awp_skip ?_
   try simp only [go_sem, ↓reduceIte, Nat.reduceEqDiff, Nat.reduceLT, Nat.reduceSub, Nat.reduceAdd, Nat.reduceMul]
   refine hK2 _ _ _ ?_
   first | clear hK2 K2 | skip
   refine awp_seq_k fun K3 hK3 => ?_
   refine awp_block ?_
   refine awp_rq zs [0, 3, 4] ?_
   refine awp_block ?_
   refine awp_loop (fun T' H' n' => ∃ (j : Nat), j ≤ 2 * s.l + 70 ∧ T' = tl [(0, .loc A.kb 0 0 0 [0]), (3, .int .i64 i), (4, .int .i64 j)] ∧ H' = H1 ∧ n' = n1) (fun T' _ _ => 2 * s.l + 70 - iv (T' 4)) ?_ ?_
   ·skip
    exact ⟨0, Nat.zero_le _, rfl, rfl, rfl⟩
   intro T1 H1 n1
   rintro ⟨j, hj, rfl, rfl, rfl⟩
   refine awp_seq_k fun K4 hK4 => ?_
   refine awp_reg zs [0, 3, 4, 25] fun K hK => ?_
   try simp only [go_sem, ↓reduceIte, Nat.reduceEqDiff, Nat.reduceLT, Nat.reduceSub, Nat.reduceAdd, Nat.reduceMul, hobj, hH, hntg, Int.toNat_natCast, BS.gav]
   repeat refine peel ?_
   refine hK _ _ _ ?_; clear hK K
   refine awp_cnd (fun hb => ?_) (fun hb => ?_)
   ·skip
    have hlj : j < 2 * s.l + 70 := by have := of_decide_eq_true hb; omega
    have hn1 := fun a => nth_rep (a := a) hlj
    refine awp_skip ?_
    try simp only [go_sem, ↓reduceIte, Nat.reduceEqDiff, Nat.reduceLT, Nat.reduceSub, Nat.reduceAdd, Nat.reduceMul]
    refine hK4 _ _ _ ?_
    first | clear hK4 K4 | skip
    refine awp_seq_k fun K5 hK5 => ?_
    refine awp_block ?_
    rcases (by omega : j < s.l ∨ (s.l ≤ j ∧ j < L) ∨ (s.l ≤ j ∧ L ≤ j)) with hjl | ⟨hjl, hjL⟩ | ⟨hjl, hjL⟩
    ·skip
     have hd9 : decide ((j : Int) < (s.l : Int)) = true := by simpa using hjl
     have hn2 := fun a => nth_rep (a := a) (Nat.lt_of_lt_of_le hjl hL)
     have hjL : j < L := by omega
     refine awp_reg zs [0, 3, 4, 71] fun K hK => ?_
     try simp only [go_sem, ↓reduceIte, Nat.reduceEqDiff, Nat.reduceLT, Nat.reduceSub, Nat.reduceAdd, Nat.reduceMul, hobj, hH, hB, hntg, hnth, Int.toNat_natCast, BS.gav, BS.av, hg1, hk1, hmw, hn1, hn2, hd9, mkB, bne_self_eq_false, List.length_replicate]
     repeat refine peel ?_
     refine hK _ _ _ ?_; clear hK K
     refine awp_cnd (fun hb => ?_) (fun hb => ?_)
     ·skip
      exact absurd hb (by decide)
      --dead
     ·skip
      refine awp_skip ?_
      try simp only [go_sem, ↓reduceIte, Nat.reduceEqDiff, Nat.reduceLT, Nat.reduceSub, Nat.reduceAdd, Nat.reduceMul]
      refine hK5 _ _ _ ?_
      first | clear hK5 K5 | skip
      refine awp_reg1 zs [0, 3, 4] fun K hK => ?_
      try simp only [go_sem, ↓reduceIte, Nat.reduceEqDiff, Nat.reduceLT, Nat.reduceSub, Nat.reduceAdd, Nat.reduceMul]
      repeat refine peel ?_
      refine hK _ _ _ ?_; clear hK K
      try simp only [go_sem, ↓reduceIte, Nat.reduceEqDiff, Nat.reduceLT, Nat.reduceSub, Nat.reduceAdd, Nat.reduceMul]
      exact ⟨⟨j + 1, by omega, by rw [w1 (by omega)]⟩, by rw [w1 (by omega)]; simp; omega⟩
    ·skip
     have hd9 : decide ((j : Int) < (s.l : Int)) = false := by simp; omega
     have hn2 := fun a => nth_rep (a := a) hjL
     refine awp_reg zs [0, 3, 4, 71] fun K hK => ?_
     try simp only [go_sem, ↓reduceIte, Nat.reduceEqDiff, Nat.reduceLT, Nat.reduceSub, Nat.reduceAdd, Nat.reduceMul, hobj, hH, hB, hntg, hnth, Int.toNat_natCast, BS.gav, BS.av, hg1, hk1, hmw, hn1, hn2, hd9, mkB, bne_self_eq_false, List.length_replicate]
     repeat refine peel ?_
     refine hK _ _ _ ?_; clear hK K
     refine awp_cnd (fun hb => ?_) (fun hb => ?_)
     ·skip
      exact absurd hb (by decide)
      --dead
     ·skip
      refine awp_skip ?_
      try simp only [go_sem, ↓reduceIte, Nat.reduceEqDiff, Nat.reduceLT, Nat.reduceSub, Nat.reduceAdd, Nat.reduceMul]
      refine hK5 _ _ _ ?_
      first | clear hK5 K5 | skip
      refine awp_reg1 zs [0, 3, 4] fun K hK => ?_
      try simp only [go_sem, ↓reduceIte, Nat.reduceEqDiff, Nat.reduceLT, Nat.reduceSub, Nat.reduceAdd, Nat.reduceMul]
      repeat refine peel ?_
      refine hK _ _ _ ?_; clear hK K
      try simp only [go_sem, ↓reduceIte, Nat.reduceEqDiff, Nat.reduceLT, Nat.reduceSub, Nat.reduceAdd, Nat.reduceMul]
      exact ⟨⟨j + 1, by omega, by rw [w1 (by omega)]⟩, by rw [w1 (by omega)]; simp; omega⟩
    ·skip
     have hd9 : decide ((j : Int) < (s.l : Int)) = false := by simp; omega
     have hn2 : ∀ a : AV, nth (List.replicate L a) j = .junk := fun a => by simp [nth, List.getD, hjL]
     refine awp_reg zs [0, 3, 4, 71] fun K hK => ?_
     try simp only [go_sem, ↓reduceIte, Nat.reduceEqDiff, Nat.reduceLT, Nat.reduceSub, Nat.reduceAdd, Nat.reduceMul, hobj, hH, hB, hntg, hnth, Int.toNat_natCast, BS.gav, BS.av, hg1, hk1, hmw, hn1, hn2, hd9, mkB, bne_self_eq_false, List.length_replicate]
     repeat refine peel ?_
     refine hK _ _ _ ?_; clear hK K
     refine awp_cnd (fun hb => ?_) (fun hb => ?_)
     ·skip
      exact absurd hb (by decide)
      --dead
     ·skip
      refine awp_skip ?_
      try simp only [go_sem, ↓reduceIte, Nat.reduceEqDiff, Nat.reduceLT, Nat.reduceSub, Nat.reduceAdd, Nat.reduceMul]
      refine hK5 _ _ _ ?_
      first | clear hK5 K5 | skip
      refine awp_reg1 zs [0, 3, 4] fun K hK => ?_
      try simp only [go_sem, ↓reduceIte, Nat.reduceEqDiff, Nat.reduceLT, Nat.reduceSub, Nat.reduceAdd, Nat.reduceMul]
      repeat refine peel ?_
      refine hK _ _ _ ?_; clear hK K
      try simp only [go_sem, ↓reduceIte, Nat.reduceEqDiff, Nat.reduceLT, Nat.reduceSub, Nat.reduceAdd, Nat.reduceMul]
      exact ⟨⟨j + 1, by omega, by rw [w1 (by omega)]⟩, by rw [w1 (by omega)]; simp; omega⟩
   ·skip
    have hje : j = 2 * s.l + 70 := by have := of_decide_eq_false hb; omega
    refine awp_exit ?_
    try simp only [go_sem, ↓reduceIte, Nat.reduceEqDiff, Nat.reduceLT, Nat.reduceSub, Nat.reduceAdd, Nat.reduceMul]
    refine hK3 _ _ _ ?_
    first | clear hK3 K3 | skip
    refine awp_reg1 zs [0, 3] fun K hK => ?_
    try simp only [go_sem, ↓reduceIte, Nat.reduceEqDiff, Nat.reduceLT, Nat.reduceSub, Nat.reduceAdd, Nat.reduceMul]
    repeat refine peel ?_
    refine hK _ _ _ ?_; clear hK K
    try simp only [go_sem, ↓reduceIte, Nat.reduceEqDiff, Nat.reduceLT, Nat.reduceSub, Nat.reduceAdd, Nat.reduceMul]
    exact ⟨⟨i + 1, by omega, by rw [w1 (by omega)]⟩, by rw [w1 (by omega)]; simp; omega⟩
  ·skip
   have hge : i = bs.length := by simp at hb; omega
   refine awp_exit ?_
   try simp only [go_sem, ↓reduceIte, Nat.reduceEqDiff, Nat.reduceLT, Nat.reduceSub, Nat.reduceAdd, Nat.reduceMul]
   refine hK1 _ _ _ ?_
   first | clear hK1 K1 | skip
   refine awp_seq_k fun K6 hK6 => ?_
   refine awp_rq zs [0, 5] ?_
   refine awp_block ?_
   refine awp_loop (fun T' H' n' => ∃ (i : Nat), i ≤ es.length ∧ T' = tl [(0, .loc A.kb 0 0 0 [0]), (5, .int .i64 i)] ∧ H' = H1 ∧ n' = n1) (fun T' _ _ => es.length - iv (T' 5)) ?_ ?_
   ·skip
    exact ⟨0, Nat.zero_le _, rfl, rfl, rfl⟩
   intro T1 H1 n1
   rintro ⟨i, hi, rfl, rfl, rfl⟩
   refine awp_seq_k fun K7 hK7 => ?_
   refine awp_reg zs [0, 5, 78] fun K hK => ?_
   try simp only [go_sem, ↓reduceIte, Nat.reduceEqDiff, Nat.reduceLT, Nat.reduceSub, Nat.reduceAdd, Nat.reduceMul, hobj]
   repeat refine peel ?_
   refine hK _ _ _ ?_; clear hK K
   refine awp_cnd (fun hb => ?_) (fun hb => ?_)
   ·skip
    have hlt : i < es.length := by simpa using hb
    have hnth : nth (es.map BS.av) i = BS.av (es.getD i default) := nth_map BS.av es i hlt
    have hntg : nth (es.map ES.gav) i = ES.gav (es.getD i default) := nth_map ES.gav es i hlt
    obtain ⟨_, _, _, hX⟩ := hb0.oke i hlt
    obtain ⟨⟨L, hL, hk1⟩, _, hg1⟩ := hX (ph2 hlt)
    have hmw : IntKind.i64.wrap (-10 - (i : Int)) = -10 - (i : Int) := w64 (by omega) (by omega)
    have hlb := hb0.le _ (getD_mem hlt)
    generalize hs9 : es.getD i default = s at *
    refine awp_skip ?_
    try simp only [go_sem, ↓reduceIte, Nat.reduceEqDiff, Nat.reduceLT, Nat.reduceSub, Nat.reduceAdd, Nat.reduceMul]
    refine hK7 _ _ _ ?_
    first | clear hK7 K7 | skip
    refine awp_seq_k fun K8 hK8 => ?_
    refine awp_block ?_
    refine awp_rq zs [0, 5, 6] ?_
    refine awp_block ?_
    refine awp_loop (fun T' H' n' => ∃ (j : Nat), j ≤ 3 * s.l + 20 ∧ T' = tl [(0, .loc A.kb 0 0 0 [0]), (5, .int .i64 i), (6, .int .i64 j)] ∧ H' = H1 ∧ n' = n1) (fun T' _ _ => 3 * s.l + 20 - iv (T' 6)) ?_ ?_
    ·skip
     exact ⟨0, Nat.zero_le _, rfl, rfl, rfl⟩
    intro T1 H1 n1
    rintro ⟨j, hj, rfl, rfl, rfl⟩
    refine awp_seq_k fun K9 hK9 => ?_
    refine awp_reg zs [0, 5, 6, 90] fun K hK => ?_
    try simp only [go_sem, ↓reduceIte, Nat.reduceEqDiff, Nat.reduceLT, Nat.reduceSub, Nat.reduceAdd, Nat.reduceMul, hobj, hG, hntg, Int.toNat_natCast, ES.gav]
    repeat refine peel ?_
    refine hK _ _ _ ?_; clear hK K
    refine awp_cnd (fun hb => ?_) (fun hb => ?_)
    ·skip
     have hlj : j < 3 * s.l + 20 := by have := of_decide_eq_true hb; omega
     have hn1 := fun a => nth_rep (a := a) hlj
     refine awp_skip ?_
     try simp only [go_sem, ↓reduceIte, Nat.reduceEqDiff, Nat.reduceLT, Nat.reduceSub, Nat.reduceAdd, Nat.reduceMul]
     refine hK9 _ _ _ ?_
     first | clear hK9 K9 | skip
     refine awp_seq_k fun K10 hK10 => ?_
     refine awp_block ?_
     rcases (by omega : j < s.l ∨ (s.l ≤ j ∧ j < L) ∨ (s.l ≤ j ∧ L ≤ j)) with hjl | ⟨hjl, hjL⟩ | ⟨hjl, hjL⟩
     ·skip
      have hd9 : decide ((j : Int) < (s.l : Int)) = true := by simpa using hjl
      have hn2 := fun a => nth_rep (a := a) (Nat.lt_of_lt_of_le hjl hL)
      have hjL : j < L := by omega
      refine awp_reg zs [0, 5, 6, 134] fun K hK => ?_
      try simp only [go_sem, ↓reduceIte, Nat.reduceEqDiff, Nat.reduceLT, Nat.reduceSub, Nat.reduceAdd, Nat.reduceMul, hobj, hG, hE, hntg, hnth, Int.toNat_natCast, ES.gav, BS.av, hg1, hk1, hmw, hn1, hn2, hd9, mkE, bne_self_eq_false, List.length_replicate]
      repeat refine peel ?_
      refine hK _ _ _ ?_; clear hK K
      refine awp_cnd (fun hb => ?_) (fun hb => ?_)
      ·skip
       exact absurd hb (by decide)
       --dead
      ·skip
       refine awp_skip ?_
       try simp only [go_sem, ↓reduceIte, Nat.reduceEqDiff, Nat.reduceLT, Nat.reduceSub, Nat.reduceAdd, Nat.reduceMul]
       refine hK10 _ _ _ ?_
       first | clear hK10 K10 | skip
       refine awp_reg1 zs [0, 5, 6] fun K hK => ?_
       try simp only [go_sem, ↓reduceIte, Nat.reduceEqDiff, Nat.reduceLT, Nat.reduceSub, Nat.reduceAdd, Nat.reduceMul]
       repeat refine peel ?_
       refine hK _ _ _ ?_; clear hK K
       try simp only [go_sem, ↓reduceIte, Nat.reduceEqDiff, Nat.reduceLT, Nat.reduceSub, Nat.reduceAdd, Nat.reduceMul]
       exact ⟨⟨j + 1, by omega, by rw [w1 (by omega)]⟩, by rw [w1 (by omega)]; simp; omega⟩
     ·skip
      have hd9 : decide ((j : Int) < (s.l : Int)) = false := by simp; omega
      have hn2 := fun a => nth_rep (a := a) hjL
      refine awp_reg zs [0, 5, 6, 134] fun K hK => ?_
      try simp only [go_sem, ↓reduceIte, Nat.reduceEqDiff, Nat.reduceLT, Nat.reduceSub, Nat.reduceAdd, Nat.reduceMul, hobj, hG, hE, hntg, hnth, Int.toNat_natCast, ES.gav, BS.av, hg1, hk1, hmw, hn1, hn2, hd9, mkE, bne_self_eq_false, List.length_replicate]
      repeat refine peel ?_
      refine hK _ _ _ ?_; clear hK K
      refine awp_cnd (fun hb => ?_) (fun hb => ?_)
      ·skip
       exact absurd hb (by decide)
       --dead
      ·skip
       refine awp_skip ?_
       try simp only [go_sem, ↓reduceIte, Nat.reduceEqDiff, Nat.reduceLT, Nat.reduceSub, Nat.reduceAdd, Nat.reduceMul]
       refine hK10 _ _ _ ?_
       first | clear hK10 K10 | skip
       refine awp_reg1 zs [0, 5, 6] fun K hK => ?_
       try simp only [go_sem, ↓reduceIte, Nat.reduceEqDiff, Nat.reduceLT, Nat.reduceSub, Nat.reduceAdd, Nat.reduceMul]
       repeat refine peel ?_
       refine hK _ _ _ ?_; clear hK K
       try simp only [go_sem, ↓reduceIte, Nat.reduceEqDiff, Nat.reduceLT, Nat.reduceSub, Nat.reduceAdd, Nat.reduceMul]
       exact ⟨⟨j + 1, by omega, by rw [w1 (by omega)]⟩, by rw [w1 (by omega)]; simp; omega⟩
     ·skip
      have hd9 : decide ((j : Int) < (s.l : Int)) = false := by simp; omega
      have hn2 : ∀ a : AV, nth (List.replicate L a) j = .junk := fun a => by simp [nth, List.getD, hjL]
      refine awp_reg zs [0, 5, 6, 134] fun K hK => ?_
      try simp only [go_sem, ↓reduceIte, Nat.reduceEqDiff, Nat.reduceLT, Nat.reduceSub, Nat.reduceAdd, Nat.reduceMul, hobj, hG, hE, hntg, hnth, Int.toNat_natCast, ES.gav, BS.av, hg1, hk1, hmw, hn1, hn2, hd9, mkE, bne_self_eq_false, List.length_replicate]
      repeat refine peel ?_
      refine hK _ _ _ ?_; clear hK K
      refine awp_cnd (fun hb => ?_) (fun hb => ?_)
      ·skip
       exact absurd hb (by decide)
       --dead
      ·skip
       refine awp_skip ?_
       try simp only [go_sem, ↓reduceIte, Nat.reduceEqDiff, Nat.reduceLT, Nat.reduceSub, Nat.reduceAdd, Nat.reduceMul]
       refine hK10 _ _ _ ?_
       first | clear hK10 K10 | skip
       refine awp_reg1 zs [0, 5, 6] fun K hK => ?_
       try simp only [go_sem, ↓reduceIte, Nat.reduceEqDiff, Nat.reduceLT, Nat.reduceSub, Nat.reduceAdd, Nat.reduceMul]
       repeat refine peel ?_
       refine hK _ _ _ ?_; clear hK K
       try simp only [go_sem, ↓reduceIte, Nat.reduceEqDiff, Nat.reduceLT, Nat.reduceSub, Nat.reduceAdd, Nat.reduceMul]
       exact ⟨⟨j + 1, by omega, by rw [w1 (by omega)]⟩, by rw [w1 (by omega)]; simp; omega⟩
    ·skip
     have hje : j = 3 * s.l + 20 := by have := of_decide_eq_false hb; omega
     refine awp_exit ?_
     try simp only [go_sem, ↓reduceIte, Nat.reduceEqDiff, Nat.reduceLT, Nat.reduceSub, Nat.reduceAdd, Nat.reduceMul]
     refine hK8 _ _ _ ?_
     first | clear hK8 K8 | skip
     refine awp_reg1 zs [0, 5] fun K hK => ?_
     try simp only [go_sem, ↓reduceIte, Nat.reduceEqDiff, Nat.reduceLT, Nat.reduceSub, Nat.reduceAdd, Nat.reduceMul]
     repeat refine peel ?_
     refine hK _ _ _ ?_; clear hK K
     try simp only [go_sem, ↓reduceIte, Nat.reduceEqDiff, Nat.reduceLT, Nat.reduceSub, Nat.reduceAdd, Nat.reduceMul]
     exact ⟨⟨i + 1, by omega, by rw [w1 (by omega)]⟩, by rw [w1 (by omega)]; simp; omega⟩
   ·skip
    have hge : i = es.length := by simp at hb; omega
    refine awp_exit ?_
    try simp only [go_sem, ↓reduceIte, Nat.reduceEqDiff, Nat.reduceLT, Nat.reduceSub, Nat.reduceAdd, Nat.reduceMul]
    refine hK6 _ _ _ ?_
    first | clear hK6 K6 | skip
    refine awp_rq zs [2] ?_
    refine awp_ret ?_
    try simp only [go_sem, ↓reduceIte, Nat.reduceEqDiff, Nat.reduceLT, Nat.reduceSub, Nat.reduceAdd, Nat.reduceMul]
    skip
end Go.Proofs.Ytijhkfhflpmajaa
namespace Go.Proofs.Ytijhkfhflpmajaa
open Go Go.Sx Go.Rt Go.Proofs
theorem l_ref3_Copied (p : Lp) (b : List UInt8) (hb : b.length ≤ 140737488355328) (H : Heap) (n : Nat) (hp : p.here H b) : Ret Try.prog 54 [p.av b.length] H n (bys b) H n := by
  obtain ⟨hat, hlen, htk⟩ := hp
  refine acalls_of_awp Try.func54 rfl Try.ntmps54 (congrArg Array.toList Try.results54) (by simp) ?_
  simp only [go_sem]
  refine awp_rq zs [0] ?_
  refine awp_rq zs [0, 3] ?_
  refine awp_reg zs [2] fun K hK => ?_
  try simp only [go_sem, seval, hat, List.drop_zero, htk]
  repeat (first | (refine And.intro ?_ ?_; · first | (simp; omega) | exact ⟨rfl, by omega⟩ | exact ⟨⟨rfl, by omega⟩, .inr rfl, by simp; omega, by simp; omega⟩) | refine peel ?_)
  refine hK _ _ _ ?_; clear hK K
  refine awp_ret ?_
  try simp only [go_sem, seval]
theorem l_ref3_Clone (x : LEnt) (he : x.e.fits) (H : Heap) (n : Nat) (hx : x.ok H n) : Ret Try.prog 33 [lentAV x] H n (entAV x.e) H n := by
  obtain ⟨h1, h2, h3⟩ := he
  have zr : x.r.k ≠ n := by have := hx.r.lt; omega
  have zr9 : ∀ j, x.r.k ≠ n + j := fun j => by have := hx.r.lt; omega
  have zq : x.q.k ≠ n := by have := hx.q.lt; omega
  have zq9 : ∀ j, x.q.k ≠ n + j := fun j => by have := hx.q.lt; omega
  have zv : x.v.k ≠ n := by have := hx.v.lt; omega
  have zv9 : ∀ j, x.v.k ≠ n + j := fun j => by have := hx.v.lt; omega
  refine Ret.fin ?_
  refine acalls_of_awp Try.func33 rfl Try.ntmps33 (congrArg Array.toList Try.results33) (by simp) ?_
  simp only [go_sem]
  refine awp_rq zs [1, 2] ?_
  refine awp_reg zs [1, 2] fun K hK => ?_
  try simp only [go_sem, seval]
  repeat refine peel ?_
  refine callK_use Try.func54 rfl rfl rfl ((l_ref3_Copied x.r x.e.row h1 _ _ (hx.r.tohere.mono (by simp [Heap.put, zr, zr9])))) ?_
  try simp only [go_sem, seval]
  repeat refine peel ?_
  refine hK _ _ _ ?_; clear hK K
  refine awp_reg zs [1, 2] fun K hK => ?_
  try simp only [go_sem, seval]
  repeat refine peel ?_
  refine callK_use Try.func54 rfl rfl rfl ((l_ref3_Copied x.q x.e.qual h2 _ _ (hx.q.tohere.mono (by simp [Heap.put, zq, zq9])))) ?_
  try simp only [go_sem, seval]
  repeat refine peel ?_
  refine hK _ _ _ ?_; clear hK K
  refine awp_reg zs [1, 2] fun K hK => ?_
  try simp only [go_sem, seval]
  repeat refine peel ?_
  refine callK_use Try.func54 rfl rfl rfl ((l_ref3_Copied x.v x.e.value h3 _ _ (hx.v.tohere.mono (by simp [Heap.put, zv, zv9])))) ?_
  try simp only [go_sem, seval]
  repeat refine peel ?_
  refine hK _ _ _ ?_; clear hK K
  refine awp_rq zs [2] ?_
  refine awp_ret ?_
  try simp only [go_sem, seval]
  refine ⟨_, rfl, ?_, Frz.eq rfl (kl_ent x.e n)⟩
  intro k hk; have h0 : k ≠ n := by omega
  have h1 : ∀ j, k ≠ n + j := fun j => by omega
  simp [Heap.put, h0, h1]
theorem l_ref3_CloneAll (p : Lp) (l : List LEnt) (hl : l.length ≤ 1000000000) (hf : ∀ x ∈ l, x.e.fits) (H : Heap) (n : Nat) (hL : LList H n p l) : Ret Try.prog 22 [p.av l.length] H n (entsAV (l.map (·.e))) H n := by
  have hlt9 := hL.lt
  refine Ret.fin ?_
  refine acalls_of_awp Try.func22 rfl Try.ntmps22 (congrArg Array.toList Try.results22) (by simp) ?_
  simp only [go_sem]
  refine awp_rq zs [0] ?_
  refine awp_rq zs [0, 3] ?_
  refine awp_seq_k fun K1 hK1 => ?_
  refine awp_adopt_tmp 3 7 rfl ?_
  refine awp_rq zs [0, 3, 4] ?_
  refine awp_block ?_
  refine awp_loop (fun T' H' n' => ∃ i : Nat, i ≤ l.length ∧ T' = tl [(0, .osl p.k p.ver 0 l.length), (3, .osl n i 0 i), (4, .int .i64 i)] ∧ H' = H.put n (some (.arr i 7 (((l.map (·.e)).take i).map entAV))) ∧ n' = n + 1) (fun T' _ _ => l.length - iv (T' 4)) ?_ ?_
  ·skip
   exact ⟨0, Nat.zero_le _, rfl, rfl, rfl⟩
  intro T1 H1 n1
  rintro ⟨i, hi, rfl, rfl, rfl⟩
  refine awp_seq_k fun K2 hK2 => ?_
  refine awp_rq zs [0, 3, 4, 8] ?_
  refine awp_cnd (fun hb => ?_) (fun hb => ?_)
  ·skip
   have hlt : i < l.length := by simpa using hb
   have hnth : nth p.els i = lentAV (l.getD i default) := hL.nth hlt
   have hii : i < p.els.length := by have := hL.len; omega
   have hmem : l.getD i default ∈ l := by simp [List.getD, List.getElem?_eq_getElem hlt]
   have htk : (l.map (·.e)).take (i + 1) = (l.map (·.e)).take i ++ [(l.getD i default).e] := by rw [List.take_add_one]; simp [List.getD, List.getElem?_eq_getElem hlt]
   generalize l.getD i default = x at *
   have hxo := hL.ok x hmem
   have hpk : (H.put n (some (.arr i 7 (((l.map (·.e)).take i).map entAV)))) p.k = some (.arr p.ver 7 p.els) := (Heap.put_ne _ _ (by omega)).trans hL.at'
   have r1 : (p.k = n) = False := by simp; omega
   have r2 : (n = p.k) = False := by simp; omega
   have hat9 := hL.at'
   have hmin : min i l.length = i := by omega
   refine awp_skip ?_
   try simp only [go_sem, seval]
   refine hK2 _ _ _ ?_
   first | clear hK2 K2 | skip
   refine awp_seq_k fun K3 hK3 => ?_
   refine awp_block ?_
   refine awp_reg1 zs [0, 3, 4] fun K hK => ?_
   try simp only [go_sem, seval, Int.toNat_natCast, hnth, hat9, r1, r2]
   repeat (first | (refine And.intro ?_ ?_; · first | exact hii | exact ⟨rfl, hii, by simp, trivial, trivial, rfl⟩ | exact ⟨rfl, by simp [AV.sz, AV.szs, AV.memOK]⟩ | (simp; omega)) | refine peel ?_)
   refine callK_use Try.func33 rfl rfl rfl ((l_ref3_Clone x (hf x hmem) _ _ (hxo.mono (fun k hk => Heap.put_ne _ _ (by omega)) (by omega)))) ?_
   try simp only [go_sem, seval, Int.toNat_natCast, hnth, hat9, r1, r2]
   repeat (first | (refine And.intro ?_ ?_; · first | exact hii | exact ⟨rfl, hii, by simp, trivial, trivial, rfl⟩ | exact ⟨rfl, by simp [AV.sz, AV.szs, AV.memOK]⟩ | (simp; omega)) | refine peel ?_)
   refine hK _ _ _ ?_; clear hK K
   try simp only [go_sem, seval]
   refine hK3 _ _ _ ?_
   first | clear hK3 K3 | skip
   refine awp_reg1 zs [0, 3, 4] fun K hK => ?_
   try simp only [go_sem, seval]
   repeat refine peel ?_
   refine hK _ _ _ ?_; clear hK K
   try simp only [go_sem, seval]
   refine ⟨⟨i + 1, by omega, by rw [w1 (by omega)], ?_⟩, by rw [w1 (by omega)]; simp; omega⟩
   rw [htk]; simp [List.take_take]; rfl
  ·skip
   have hge : i = l.length := by simp at hb; omega
   refine awp_exit ?_
   try simp only [go_sem, seval]
   refine hK1 _ _ _ ?_
   first | clear hK1 K1 | skip
   refine awp_rq zs [2] ?_
   refine awp_ret ?_
   try simp only [go_sem, seval]
   refine ⟨_, rfl, fun k hk => Heap.put_ne _ _ (by omega), .osl (Heap.put_same _ _ _) (Nat.le_refl _) (by simp; omega) ?_⟩
   rw [hge, List.drop_zero, List.take_of_length_le (l := l.map (·.e)) (by simp), List.take_of_length_le (by simp)]; exact FrzL.kls _ (kls_ents _ _)
end Go.Proofs.Ytijhkfhflpmajaa
namespace Go.Proofs.Ytijhkfhflpmajaa
open Go Go.Sx Go.Rt Go.Proofs
def smallE (e : Ent) : Prop := e.row.length ≤ 256 ∧ e.qual.length ≤ 256 ∧ e.value.length ≤ 4096
theorem small_of {e : Ent} (h : checkE e = 0) : smallE e := by
  unfold checkE at h
  repeat' split at h
  all_goals first | (exact absurd h (by decide)) | skip
  rename_i h1 h2 h3 h4 h5 h6 h7
  have h1 := bout_false (Bool.eq_false_iff.2 h1)
  refine ⟨by omega, ?_, ?_⟩
  · have : ¬ 256 < (e.qual.length : Int) := by
      intro h; apply h3; simp [badQ, h]
    omega
  · have : ¬ 4096 < (e.value.length : Int) := by
      intro h; apply h7; simp [badV, h]
    omega
theorem small_fits {e : Ent} (h : smallE e) : e.fits := by obtain ⟨h1, h2, h3⟩ := h; exact ⟨by omega, by omega, by omega⟩
def evS : Ev → Prop
  | .g d => smallE d.e
  | .o => True
  | .m e _ => smallE e
theorem decOf_e (w : Wlk) : (decOf w).e = w.ge := by unfold decOf; cases (!outD (dec0 w) && !w.lone) <;> rfl
theorem closeV_S {w : Wlk} (h : w.opn = true → smallE w.ge) : ∀ v ∈ closeV w, evS v := by
  unfold closeV
  split
  · intro v hv; cases hv
  · rename_i ho
    intro v hv
    rw [List.mem_singleton.1 hv]
    show smallE (decOf w).e
    rw [decOf_e]; exact h (by simpa using ho)
theorem nextW_S {w : Wlk} {e : Ent} (h : w.opn = true → smallE w.ge) (he : smallE e) : (nextW w e).opn = true → smallE (nextW w e).ge := by
  have h1 : (nx1 w e).opn = true → smallE (nx1 w e).ge := by
    unfold nx1; cases endsE w e
    · exact h
    · unfold closeW; simp only [cond_true]; split
      · exact h
      · intro ho; simp at ho
  have h2 : (nx2 (nx1 w e) e).opn = true → smallE (nx2 (nx1 w e) e).ge := by unfold nx2; cases newFam (nx1 w e) e <;> exact h1
  have h3 : (nx3 (nx2 (nx1 w e) e) e).opn = true → smallE (nx3 (nx2 (nx1 w e) e) e).ge := by unfold nx3; cases newCol (nx2 (nx1 w e) e) e <;> exact h2
  unfold nextW nx5
  split
  · exact h3
  · split
    · exact h3
    · unfold verW; split
      · intro _; exact he
      · exact h3
theorem evN_S {w : Wlk} {e : Ent} (h : w.opn = true → smallE w.ge) (he : smallE e) : ∀ v ∈ evN w e, evS v := by
  unfold evN ev1 ev5
  intro v hv
  rcases List.mem_append.1 hv with hv | hv
  · cases hb : endsE w e with
    | true => rw [hb] at hv; exact closeV_S h v hv
    | false => rw [hb] at hv; cases hv
  · split at hv
    · rw [List.mem_singleton.1 hv]; exact he
    · split at hv
      · rw [List.mem_singleton.1 hv]; exact he
      · split at hv
        · cases hv
        · rw [List.mem_singleton.1 hv]; trivial
theorem evP_S : ∀ (l : List Ent) (w : Wlk), (w.opn = true → smallE w.ge) → (∀ e ∈ l, smallE e) → ∀ v ∈ evP l w, evS v := by
  intro l
  induction l with
  | nil => intro w h _; exact closeV_S h
  | cons e l ih =>
    intro w h hl v hv
    rw [evP] at hv
    rcases List.mem_append.1 hv with hv | hv
    · exact evN_S h (hl e (by simp)) v hv
    · exact ih _ (nextW_S h (hl e (by simp))) (fun x hx => hl x (by simp [hx])) v hv
theorem kept_S (f : List Fml) : ∀ (l : List Ev) (st : KSt), (∀ v ∈ l, evS v) → (∀ e ∈ st.out, smallE e) → ∀ e ∈ (l.foldl (evT (keptG f) keptO keptM) st).out, smallE e := by
  intro l
  induction l with
  | nil => intro st _ h; exact h
  | cons v l ih =>
    intro st hl h
    rw [List.foldl_cons]
    refine ih _ (fun x hx => hl x (by simp [hx])) ?_
    have hv := hl v (by simp)
    have hs : ∀ x, smallE x → ∀ e ∈ st.out ++ [x], smallE e := fun x hx e he => by
      rcases List.mem_append.1 he with he | he
      · exact h e he
      · rw [List.mem_singleton.1 he]; exact hx
    cases v with
    | g d =>
      show ∀ e ∈ (keptG f st d).out, smallE e
      have hd : smallE d.e := hv
      have hd2 : smallE { d.e with kind := 2, value := [] } := ⟨hd.1, hd.2.1, Nat.zero_le _⟩
      unfold keptG; repeat' split
      all_goals first | exact h | exact hs _ hd | exact hs _ hd2
    | o => exact h
    | m e b =>
      show ∀ x ∈ (keptM st e b).out, smallE x
      unfold keptM; split
      · exact h
      · exact hs _ hv
theorem shown_S (f : List Fml) : ∀ (l : List Ev) (st : SSt), (∀ v ∈ l, evS v) → (∀ e ∈ st.out, smallE e) → ∀ e ∈ (l.foldl (evT (shownG f) id fun st _ _ => st) st).out, smallE e := by
  intro l
  induction l with
  | nil => intro st _ h; exact h
  | cons v l ih =>
    intro st hl h
    rw [List.foldl_cons]
    refine ih _ (fun x hx => hl x (by simp [hx])) ?_
    have hv := hl v (by simp)
    cases v with
    | g d =>
      show ∀ e ∈ (shownG f st d).out, smallE e
      unfold shownG; repeat' split
      all_goals first | exact h | (intro e he; rcases List.mem_append.1 he with he | he; exact h e he; rw [List.mem_singleton.1 he]; exact hv)
    | o => exact h
    | m e b => exact h
theorem squashE_S (s : List Fml) (clock low : Int) (major : Bool) (l : List Ent) : ∀ e ∈ (squashE s clock major low l).1, smallE e := by
  unfold squashE
  split
  · intro e he; cases he
  · rename_i h
    obtain ⟨_, _, _, hm, _⟩ := prepE_zero (by simpa using h)
    exact kept_S s _ _ (evP_S _ _ (fun h => by simp [wlk0] at h) fun e he => small_of (checkedE_zero (hm e he).2).1) (fun e he => by cases he)
theorem readE_S (s : List Fml) (clock t n : Int) (l : List Ent) : ∀ e ∈ (readE s clock t n l).1, smallE e := by
  unfold readE
  split
  · intro e he; cases he
  · rename_i h
    obtain ⟨_, _, _, hm, _⟩ := prepE_zero (by simpa using h)
    exact shown_S s _ _ (evP_S _ _ (fun h => by simp [wlk0] at h) fun e he => small_of (checkedE_zero (hm e he).2).1) (fun e he => by cases he)
theorem sortE_S (l : List Ent) : (∀ e ∈ (sortE l).1, smallE e) ∧ (sortE l).1.length ≤ l.length := by
  unfold sortE
  split
  · exact ⟨fun e he => (by cases he), Nat.zero_le _⟩
  · rename_i h
    have h := badsC_fits l (by simpa using h)
    unfold sortedE
    cases hd : ddE [] l with
    | none => exact ⟨fun e he => (by cases he), Nat.zero_le _⟩
    | some m => exact ⟨fun e he => small_of (h e (sortedE_mem hd e he)), by show (stabL ltE m).length ≤ _; rw [stabL_length]; have := ddE_length l [] m hd; simpa using this⟩
theorem readE_len (s : List Fml) (clock t n : Int) (l : List Ent) : (readE s clock t n l).1.length ≤ 2 * l.length + 1 := by
  unfold readE
  split
  · simp
  · rename_i h
    obtain ⟨_, _, _, _, hlen⟩ := prepE_zero (by simpa using h)
    have h2 := evP_len (prepE s clock [t] n l).1 (wlk0 s clock)
    have h1 : ∀ (v : List Ev) (st : SSt), (v.foldl (evT (shownG s) id fun st _ _ => st) st).out.length ≤ st.out.length + v.length := by
      intro v
      induction v with
      | nil => intro st; simp
      | cons x v ih =>
        intro st
        rw [List.foldl_cons]
        have h3 := ih (evT (shownG s) id (fun st _ _ => st) st x)
        have h4 : (evT (shownG s) id (fun st _ _ => st) st x).out.length ≤ st.out.length + 1 := by
          cases x with
          | g d => show (shownG s st d).out.length ≤ _; unfold shownG; repeat' split
                   all_goals simp
          | o => show st.out.length ≤ _; omega
          | m e b => show st.out.length ≤ _; omega
        simp only [List.length_cons]; omega
    have h5 := h1 (evP (prepE s clock [t] n l).1 (wlk0 s clock)) (sst0 t n)
    have h6 : (sst0 t n).out.length = 0 := rfl
    show (shownOf s clock t n _).out.length ≤ _
    unfold shownOf
    omega
end Go.Proofs.Ytijhkfhflpmajaa
namespace Go.Proofs.Ytijhkfhflpmajaa
open Go Go.Sx Go.Rt Go.Proofs
theorem bk_keep2 {H H' : Heap} {n : Nat} {tg : Nat → Tg} {A : BkA} {bs : List BS} {a m : Nat} {es : List BS} {c p : Nat} (h : Bk H n tg A bs a m es c p) {lo hi ko ver : Nat} {xs : List LEnt} (hat : H ko = some (.arr ver 7 (xs.map lentAV))) (hm : MineL H lo hi xs) (hhi : hi ≤ n) (hkn : ko < n) (hkf : tg ko = .free) (hno : ko ∉ xs.flatMap LEnt.ks) (hfree : ∀ k ∈ xs.flatMap LEnt.ks, tg k = .free)
    (hb1 : ∀ x ∈ xs, x.e.row.length ≤ 140000 ∧ x.e.qual.length ≤ 140000 ∧ x.e.value.length ≤ 140000) (hb2 : xs.length ≤ 400000000) (hnb : bs.length + 3 * xs.length ≤ 1000000000000) (hne : es.length < 1000000000)
    {vB vE : Nat} (hB : H' A.kB = some (.arr vB 1 ((bs ++ xs.flatMap newB).map BS.av))) (hE : H' A.kE = some (.arr vE 1 ((es ++ [BS.mk ko ver xs.length 0 0]).map BS.av))) (hrest : ∀ j, j ≠ A.kb → j ≠ A.kB → j ≠ A.kE → H' j = H j) :
    Bk H' n (tgAns tg bs.length es.length ko (xs.flatMap LEnt.ks)) { A with vB := vB, vE := vE } (bs ++ xs.flatMap newB) a m (es ++ [BS.mk ko ver xs.length 0 0]) c p := by
  have h1 := h.ab
  have h2 := h.ce
  have hks : ∀ k, k ∈ xs.flatMap LEnt.ks → tg k = .free ∧ k < n := fun k hk => by have := hm.in' hk; exact ⟨hfree k hk, by omega⟩
  have kp : ∀ {k}, tg k ≠ .free → tgAns tg bs.length es.length ko (xs.flatMap LEnt.ks) k = tg k := fun {k} hk => by
    unfold tgAns
    rw [if_neg (fun e => hk (by rw [e]; exact hkf)), if_neg (fun hin => hk (hks k hin).1)]
  have ne : ∀ {k t}, tg k = t → t ≠ .sys 0 → t ≠ .sys 1 → t ≠ .sys 3 → H' k = H k := fun {k t} e1 e2 e3 e4 => hrest k (by intro e; rw [e, h.tb] at e1; exact e2 e1.symm) (by intro e; rw [e, h.tB] at e1; exact e4 e1.symm) (by intro e; rw [e, h.tE] at e1; exact e3 e1.symm)
  have nln : ∀ k, tg k = .free → H' k = H k := fun k hk => ne hk (by simp) (by simp) (by simp)
  have hlk : (xs.flatMap LEnt.ks).length = (xs.flatMap newB).length := by rw [← newB_ks, List.length_map]
  exact {
    lE := hE
    lG := by rw [ne h.tG (by simp) (by simp) (by simp), List.take_append_of_le_length (by have := h.pc; omega)]; exact h.lG
    lB := hB
    lH := by rw [ne h.tH (by simp) (by simp) (by simp), List.take_append_of_le_length (by have := h.ma; omega)]; exact h.lH
    tb := (kp (by rw [h.tb]; simp)).trans h.tb
    tE := (kp (by rw [h.tE]; simp)).trans h.tE
    tG := (kp (by rw [h.tG]; simp)).trans h.tG
    tB := (kp (by rw [h.tB]; simp)).trans h.tB
    tH := (kp (by rw [h.tH]; simp)).trans h.tH
    lt := fun k hk => by
      unfold tgAns at hk
      split at hk
      · rename_i e; rw [e]; exact hkn
      · split at hk
        · rename_i hin; exact (hks k hin).2
        · exact h.lt k hk
    ma := h.ma
    ab := by rw [List.length_append]; omega
    pc := h.pc
    ce := by rw [List.length_append]; omega
    okb := fun i hi => by
      by_cases hlt : i < bs.length
      · rw [getD_app_lt hlt]
        exact ((h.okb i hlt).frame fun k hk => ne hk (by simp) (by simp) (by simp)).retag fun k hk => (kp (by rw [hk]; simp)).trans hk
      · have hq : i - bs.length < (xs.flatMap newB).length := by rw [List.length_append] at hi; omega
        rw [getD_app_ge (by omega), ph0 h.ma (by omega)]
        generalize hs : (xs.flatMap newB).getD (i - bs.length) default = s
        have hmem : s ∈ xs.flatMap newB := by rw [← hs]; exact getD_mem hq
        obtain ⟨⟨X, hX1, hX2, hX3⟩, hk1, hk2, _⟩ := newB_mem hm hmem
        have hsk : s.k = (xs.flatMap LEnt.ks)[i - bs.length]'(by omega) := by
          rw [← hs]
          simp only [← newB_ks, List.getElem_map, List.getD, List.getElem?_eq_getElem hq, Option.getD_some]
        have hin : s.k ∈ xs.flatMap LEnt.ks := by rw [hsk]; exact List.getElem_mem _
        refine ⟨?_, fun _ => ⟨X, (nln _ (hks _ hin).1).trans hX1, hX2, hX3⟩, fun e => by simp at e, fun e => by simp at e⟩
        have hnko : s.k ≠ ko := fun e => hno (by rw [← e]; exact hin)
        unfold tgAns
        rw [if_neg hnko, if_pos hin, hsk, hm.nd.idxOf_getElem]
        congr 1; omega
    oke := fun i hi => by
      by_cases hlt : i < es.length
      · rw [getD_app_lt hlt]
        exact ((h.oke i hlt).frame fun k hk => ne hk (by simp) (by simp) (by simp)).retag fun k hk => (kp (by rw [hk]; simp)).trans hk
      · have hq : i = es.length := by rw [List.length_append, List.length_singleton] at hi; omega
        subst hq
        rw [getD_app_ge (by omega), ph0 h.pc (by omega), Nat.sub_self]
        refine ⟨?_, fun _ => ⟨_, (nln _ hkf).trans hat, by show (xs.map lentAV).length = xs.length; simp, fun x hx => by obtain ⟨y, _, rfl⟩ := List.mem_map.1 hx; exact lentAV_sz y⟩, fun e => by simp at e, fun e => by simp at e⟩
        show tgAns tg bs.length es.length ko _ ko = _
        unfold tgAns; rw [if_pos rfl]
    lb := fun s hs => by
      rcases List.mem_append.1 hs with h9 | h9
      · exact h.lb s h9
      · obtain ⟨_, _, _, x, hx, h9⟩ := newB_mem hm h9
        obtain ⟨g1, g2, g3⟩ := hb1 x hx
        rcases h9 with h9 | h9 | h9 <;> omega
    le := fun s hs => by
      rcases List.mem_append.1 hs with h9 | h9
      · exact h.le s h9
      · rw [List.mem_singleton.1 h9]; exact hb2
    nb := by rw [List.length_append, newB_len]; omega
    ne := by rw [List.length_append, List.length_singleton]; omega }
def Cn (H : Heap) (n : Nat) (tg : Nat → Tg) (b : BS) (w : List Ent) : Prop :=
  ∃ xs : List LEnt, b.l = xs.length ∧ w = xs.map (·.e) ∧ H b.k = some (.arr b.v 7 (xs.map lentAV)) ∧ (∀ x ∈ xs, x.ok H n) ∧ ∀ x ∈ xs, ∀ k ∈ x.ks, tg k ≠ .free ∧ ∀ i, tg k ≠ .sys i
theorem ok_on {H H' : Heap} {n n' : Nat} {x : LEnt} (hx : x.ok H n) (hn : n ≤ n') (hr : ∀ k ∈ x.ks, H' k = H k) : x.ok H' n' :=
  ⟨⟨hx.r.tohere.mono (hr _ (by simp [LEnt.ks])), Nat.lt_of_lt_of_le hx.r.lt hn⟩, ⟨hx.q.tohere.mono (hr _ (by simp [LEnt.ks])), Nat.lt_of_lt_of_le hx.q.lt hn⟩, ⟨hx.v.tohere.mono (hr _ (by simp [LEnt.ks])), Nat.lt_of_lt_of_le hx.v.lt hn⟩⟩
theorem ok_at {H H' : Heap} {n m : Nat} {x : LEnt} (hx : x.ok H n) (hr : ∀ k ∈ x.ks, H' k = H k) (hl : ∀ k ∈ x.ks, k < m) : x.ok H' m :=
  ⟨⟨hx.r.tohere.mono (hr _ (by simp [LEnt.ks])), hl _ (by simp [LEnt.ks])⟩, ⟨hx.q.tohere.mono (hr _ (by simp [LEnt.ks])), hl _ (by simp [LEnt.ks])⟩, ⟨hx.v.tohere.mono (hr _ (by simp [LEnt.ks])), hl _ (by simp [LEnt.ks])⟩⟩
theorem mine_has {H : Heap} {lo hi : Nat} {x : LEnt} (h : x.mine H lo hi) {k : Nat} (hk : k ∈ x.ks) : ∃ o, H k = some o := by
  simp only [LEnt.ks, List.mem_cons, List.not_mem_nil, or_false] at hk
  rcases hk with rfl | rfl | rfl
  · exact ⟨_, h.r.at'⟩
  · exact ⟨_, h.q.at'⟩
  · exact ⟨_, h.v.at'⟩
theorem Ret.lives {P : Program} {f : FuncId} {args : List AV} {H : Heap} {n : Nat} {r : AV} {H' : Heap} {n' : Nat} {L : List Nat} (hk : ∀ k ∈ L, ∃ o, H k = some o) (h : (∀ k ∈ L, k < n) → Ret P f args H n r H' n') : Ret P f args H n r H' n' := fun c w vs hs hr => by
  refine h (fun k h9 => ?_) c w vs hs hr
  rcases Nat.lt_or_ge k n with h1 | h1
  · exact h1
  · obtain ⟨o, ho⟩ := hk k h9
    have := (hs.fresh k h1).1; rw [this] at ho; cases ho
theorem Cn.frame {H H' : Heap} {n n' : Nat} {tg : Nat → Tg} {b : BS} {w : List Ent} (h : Cn H n tg b w) (hn : n ≤ n') (hb : tg b.k ≠ .free ∧ ∀ i, tg b.k ≠ .sys i) (hr : ∀ k, tg k ≠ .free → (∀ i, tg k ≠ .sys i) → H' k = H k) : Cn H' n' tg b w := by
  obtain ⟨xs, h1, h2, h3, h4, h5⟩ := h
  exact ⟨xs, h1, h2, (hr _ hb.1 hb.2).trans h3, fun x hx => ok_on (h4 x hx) hn fun k hk => hr k (h5 x hx k hk).1 (h5 x hx k hk).2, h5⟩
theorem Cn.retag {H : Heap} {n : Nat} {tg tg' : Nat → Tg} {b : BS} {w : List Ent} (h : Cn H n tg b w) (ht : ∀ k, tg k ≠ .free → tg' k = tg k) : Cn H n tg' b w := by
  obtain ⟨xs, h1, h2, h3, h4, h5⟩ := h
  exact ⟨xs, h1, h2, h3, h4, fun x hx k hk => by rw [ht k (h5 x hx k hk).1]; exact h5 x hx k hk⟩
structure Kp (kW M : Nat) (ws : List (List Ent)) (tg : Nat → Tg) (A : BkA) (bs es : List BS) (vW : Nat) (H : Heap) (n : Nat) : Prop where
  bk : Bk H n tg A bs 0 0 es 0 0
  obj : H A.kb = some (.arr 0 6 [.agg [.agg (bookL A bs 0 es 0), .osl kW vW 0 ws.length]])
  was : H kW = some (.arr vW 1 (ws.map entsAV))
  tW : tg kW = .free
  kWn : kW < n
  len : es.length = ws.length
  con : ∀ i, i < es.length → Cn H n tg (es.getD i default) (ws.getD i [])
  bl : bs.length ≤ M
def KpE (kb kW M : Nat) (ws : List (List Ent)) (tg : Nat → Tg) (H : Heap) (n : Nat) : Prop := ∃ A bs es vW, A.kb = kb ∧ Kp kW M ws tg A bs es vW H n
theorem KpE.frame {kb kW M : Nat} {ws : List (List Ent)} {tg : Nat → Tg} {H H' : Heap} {n n' : Nat} (h : KpE kb kW M ws tg H n) (hn : n ≤ n') (hW : H' kW = H kW) (hr : ∀ k, tg k ≠ .free → H' k = H k) : KpE kb kW M ws tg H' n' := by
  obtain ⟨A, bs, es, vW, e, h⟩ := h
  refine ⟨A, bs, es, vW, e, h.bk.frame (fun k hk _ => hr k hk) hn, (hr _ (by rw [h.bk.tb]; simp)).trans h.obj, hW.trans h.was, h.tW, Nat.lt_of_lt_of_le h.kWn hn, h.len, fun i hi => ?_, h.bl⟩
  have ht := (h.bk.oke i hi).1
  exact (h.con i hi).frame hn (by rw [ht]; simp) fun k hk _ => hr k hk
theorem KpE.lt {kb kW M : Nat} {ws : List (List Ent)} {tg : Nat → Tg} {H : Heap} {n : Nat} (h : KpE kb kW M ws tg H n) : kW < n ∧ (∀ k, tg k ≠ .free → k < n) ∧ tg kW = .free ∧ tg kb = .sys 0 := by
  obtain ⟨A, bs, es, vW, e, h⟩ := h
  exact ⟨h.kWn, h.bk.lt, h.tW, by rw [← e]; exact h.bk.tb⟩
set_option maxHeartbeats 1600000 in
theorem c_law_take (kb kW M : Nat) (ws : List (List Ent)) (tg : Nat → Tg) (H : Heap) (n : Nat) (hP : KpE kb kW M ws tg H n) (ko ver lo hi : Nat) (xs : List LEnt) (hat : H ko = some (.arr ver 7 (xs.map lentAV))) (hm : MineL H lo hi xs) (hhi : hi ≤ n) (hkn : ko < n) (hkf : tg ko = .free) (hkW : ko ≠ kW) (hno : ko ∉ xs.flatMap LEnt.ks) (hfree : ∀ k ∈ xs.flatMap LEnt.ks, tg k = .free ∧ k ≠ kW)
    (hsm : ∀ x ∈ xs, smallE x.e) (hxl : xs.length ≤ 400000000) (hM : M + 3 * xs.length ≤ 1000000000000) (hwl : ws.length < 1000000000) :
    ACalls Try.prog 36 [.loc kb 0 0 0 [], .osl ko ver 0 xs.length] H n fun res H' n' => res = .val (.tup []) ∧ n' = n ∧ (∃ tg', KpE kb kW (M + 3 * xs.length) (ws ++ [xs.map (·.e)]) tg' H' n' ∧ ∀ k, k ≠ ko → k ∉ xs.flatMap LEnt.ks → tg' k = tg k) ∧ ∀ k, tg k = .free → k ≠ kW → H' k = H k := by
  obtain ⟨A, bs, es, vW, rfl, hP⟩ := hP
  have hbk := hP.bk
  have fre : ∀ k, tg k = .free → k ≠ A.kb ∧ k ≠ A.kB ∧ k ≠ A.kE := fun k hk => ⟨fun e => by rw [e, hbk.tb] at hk; simp at hk, fun e => by rw [e, hbk.tB] at hk; simp at hk, fun e => by rw [e, hbk.tE] at hk; simp at hk⟩
  have hobj := hP.obj
  simp only [bookL] at hobj
  have hbl := hP.bl
  have hlen := hP.len
  have r1 : (0 : Nat) = 0 := rfl
  have r2 : (0 : Nat) = 0 := rfl
  have qb : (A.kb = kW) = False := eq_false (Ne.symm (fre kW hP.tW).1)
  have qw : (kW = A.kb) = False := eq_false (fre kW hP.tW).1
  have hwm : (ws.map entsAV).length = ws.length := List.length_map _
  refine acalls_of_awp Try.func36 rfl Try.ntmps36 (congrArg Array.toList Try.results36) (by simp) ?_
  simp only [go_sem]
  refine awp_reg zs [0, 1] fun K hK => ?_
  try simp only [go_sem, seval, r1, r2, qb, qw, hwm, entsAV]
  repeat refine peel ?_
  refine callK_useK (args' := [.loc A.kb 0 0 0 [0], .osl ko ver 0 xs.length]) Try.func25 rfl rfl rfl (c_law_keep (.osl kW vW 0 ws.length) rfl A bs 0 es 0 ko ver xs H n hP.obj hbk.lB hbk.lE hat (fun e => by have h1 := hbk.tb; rw [e, hbk.tB] at h1; simp at h1) (fun e => by have h1 := hbk.tb; rw [e, hbk.tE] at h1; simp at h1) (fun e => by have h1 := hbk.tB; rw [e, hbk.tE] at h1; simp at h1) (fre ko hkf).1 (fre ko hkf).2.1 (fre ko hkf).2.2 (by omega) (by omega)) ?_ ?_
  rotate_left
  · intro p H' n' h; obtain ⟨_, _, hx, _⟩ := h; cases hx
  rintro rr H3 n3 ⟨vB, vE, hr2, hn3, hB3, hE3, hob3, hrest3⟩
  have hn3' := hn3.symm
  subst hn3'
  cases hr2
  have hfr3 : ∀ k, tg k = .free → H3 k = H k := fun k hk => by obtain ⟨g1, g2, g3⟩ := fre k hk; exact hrest3 k g1 g2 g3
  have r1 := hob3
  simp only [bookL] at r1
  have r2 := (hfr3 kW hP.tW).trans hP.was
  have hk3 : ∀ k ∈ ko :: xs.flatMap LEnt.ks, ∃ o, H3 k = some o := fun k hk => by
    rcases List.mem_cons.1 hk with e | hk
    · rw [e]; exact ⟨_, (hfr3 ko hkf).trans hat⟩
    · obtain ⟨x, hx, hk⟩ := List.mem_flatMap.1 hk
      obtain ⟨o, ho⟩ := mine_has (hm.all x hx) hk
      exact ⟨o, (hfr3 k (hfree k (List.mem_flatMap.2 ⟨x, hx, hk⟩)).1).trans ho⟩
  have hcl9 : ∀ m, Ret Try.prog 22 [.osl ko ver 0 xs.length] H3 m (entsAV (xs.map (·.e))) H3 m := fun m => Ret.lives hk3 fun hlt => l_ref3_CloneAll ⟨ko, ver, xs.map lentAV⟩ xs (by omega) (fun y hy => small_fits (hsm y hy)) H3 m ⟨hlt ko (by simp), (hfr3 ko hkf).trans hat, by simp, List.take_of_length_le (by simp), fun x hx => ok_at (hm.ok x hx) (fun k hk => hfr3 k (hfree k (List.mem_flatMap.2 ⟨x, hx, hk⟩)).1) fun k hk => hlt k (List.mem_cons_of_mem _ (List.mem_flatMap.2 ⟨x, hx, hk⟩))⟩
  try simp only [go_sem, seval, r1, r2, qb, qw, hwm, entsAV]
  repeat refine peel ?_
  refine hK _ _ _ ?_; clear hK K
  refine awp_drw1 rfl zs [] [.m, .m, .q, .q, .q, .m, .c, .q, .w [], .q, .q, .w []] (by kernel_rfl) (fun _ _ _ _ _ h => h) fun K hK => ?_
  try simp only [go_sem, seval, r1, r2, qb, qw, hwm, entsAV]
  repeat (first | (refine And.intro ?_ ?_; · first | exact ⟨rfl, by simp [AV.sz, AV.memOK]⟩ | exact ⟨by first | omega | (simp; done), .inr trivial, by first | omega | (simp; omega), by first | omega | (simp; omega)⟩) | refine peel ?_)
  refine callQG_use Try.func22 rfl rfl rfl (fun _ n => (hcl9 _)) ?_
  try simp only [go_sem, seval, r1, r2, qb, qw, hwm, entsAV]
  repeat (first | (refine And.intro ?_ ?_; · first | exact ⟨rfl, by simp [AV.sz, AV.memOK]⟩ | exact ⟨by first | omega | (simp; done), .inr trivial, by first | omega | (simp; omega), by first | omega | (simp; omega)⟩) | refine peel ?_)
  refine hK _ _ _ ?_; clear hK K
  try simp only [go_sem, seval, r1, r2, qb, qw, hwm, entsAV]
  try simp only [go_sem, seval, r1, r2, qb, qw, hwm, entsAV]
  refine ⟨⟨tgAns tg bs.length es.length ko (xs.flatMap LEnt.ks), ⟨{ A with vB := vB, vE := vE }, bs ++ xs.flatMap newB, es ++ [BS.mk ko ver xs.length 0 0], vW + 1, rfl, ?_⟩, fun k h1 h2 => tgAns_free h1 h2⟩, fun k h1 h2 => ?_⟩
  · have hb9 : Bk H3 n (tgAns tg bs.length es.length ko (xs.flatMap LEnt.ks)) { A with vB := vB, vE := vE } (bs ++ xs.flatMap newB) 0 0 (es ++ [BS.mk ko ver xs.length 0 0]) 0 0 := bk_keep2 hbk hat hm hhi hkn hkf hno (fun k hk => (hfree k hk).1) (fun x hx => by obtain ⟨g1, g2, g3⟩ := hsm x hx; omega) hxl (by omega) (by omega) hB3 hE3 hrest3
    have kp : ∀ k, tg k ≠ .free → tgAns tg bs.length es.length ko (xs.flatMap LEnt.ks) k = tg k := fun k hk => tgAns_free (fun e => hk (by rw [e]; exact hkf)) (fun hin => hk (hfree k hin).1)
    have tW9 : tgAns tg bs.length es.length ko (xs.flatMap LEnt.ks) kW = .free := (tgAns_free (Ne.symm hkW) (fun hin => (hfree kW hin).2 rfl)).trans hP.tW
    have hG : ∀ k, k ≠ kW → k ≠ A.kb → ∀ o1 o2, ((H3.put kW o1).put A.kb o2) k = H3 k := fun k g1 g2 o1 o2 => (Heap.put_ne _ _ g2).trans (Heap.put_ne _ _ g1)
    refine ⟨hb9.frame (fun k hk hkb => hG k (fun e => hk (by rw [e]; exact tW9)) hkb _ _) (Nat.le_refl _), ?_, ?_, tW9, hP.kWn, by simp [hlen], fun i hi => ?_, by rw [List.length_append, newB_len]; omega⟩
    · rw [Heap.put_same]; simp [bookL, newB_len, -List.length_flatMap]
    · rw [Heap.put_ne _ _ (fre kW hP.tW).1, Heap.put_same, List.take_of_length_le (by simp)]; simp [entsAV]
    · by_cases hlt : i < es.length
      · rw [getD_app_lt hlt, show (ws ++ [xs.map (·.e)]).getD i [] = ws.getD i [] by simp [List.getD, List.getElem?_append_left (show i < ws.length by omega)]]
        have ht := (hbk.oke i hlt).1
        refine ((hP.con i hlt).frame (Nat.le_refl _) (by rw [ht]; simp) (fun k hk hs => ?_)).retag kp
        rw [hG k (fun e => hk (by rw [e]; exact hP.tW)) (fun e => hs 0 (by rw [e]; exact hbk.tb))]
        exact hrest3 k (fun e => hs 0 (by rw [e]; exact hbk.tb)) (fun e => hs 3 (by rw [e]; exact hbk.tB)) (fun e => hs 1 (by rw [e]; exact hbk.tE))
      · have hq : i = es.length := by rw [List.length_append, List.length_singleton] at hi; omega
        subst hq
        rw [getD_app_ge (Nat.le_refl _), Nat.sub_self, show (ws ++ [xs.map (·.e)]).getD es.length [] = xs.map (·.e) by rw [hlen]; simp [List.getD]]
        have hGf : ∀ k, tg k = .free → k ≠ kW → ∀ o1 o2, ((H3.put kW o1).put A.kb o2) k = H k := fun k g1 g2 o1 o2 => (hG k g2 (fre k g1).1 o1 o2).trans (hfr3 k g1)
        refine ⟨xs, rfl, rfl, (hGf ko hkf hkW _ _).trans hat, fun x hx => ok_on (hm.ok x hx) hhi fun k hk => hGf k (hfree k (List.mem_flatMap.2 ⟨x, hx, hk⟩)).1 (hfree k (List.mem_flatMap.2 ⟨x, hx, hk⟩)).2 _ _, fun x hx k hk => ?_⟩
        have hin : k ∈ xs.flatMap LEnt.ks := List.mem_flatMap.2 ⟨x, hx, hk⟩
        unfold tgAns
        rw [if_neg (fun e => hno (by rw [← e]; exact hin)), if_pos hin]
        simp
  · rw [if_neg (fre k h1).1, if_neg h2]; exact hfr3 k h1
theorem c_law_untouched (kb kW M : Nat) (ws : List (List Ent)) (tg : Nat → Tg) (H : Heap) (n : Nat) (hP : KpE kb kW M ws tg H n) (hl : ∀ w ∈ ws, w.length < 4611686018427387904) :
    Ret Try.prog 37 [.loc kb 0 0 0 []] H n (.bool true) H n := by
  obtain ⟨A, bs, es, vW, rfl, hP⟩ := hP
  have hobj := hP.obj
  simp only [bookL] at hobj
  have hE := hP.bk.lE
  have hne := hP.bk.ne
  have hW := hP.was
  have hlen := hP.len
  refine acalls_of_awp Try.func37 rfl Try.ntmps37 (congrArg Array.toList Try.results37) (by simp) ?_
  simp only [go_sem]
  refine awp_rq zs [0] ?_
  refine awp_seq_k fun K1 hK1 => ?_
  refine awp_rq zs [0, 3] ?_
  refine awp_block ?_
  refine awp_loop (fun T' H' n' => ∃ (i : Nat), i ≤ es.length ∧ T' = tl [(0, .loc A.kb 0 0 0 []), (3, .int .i64 i)] ∧ H' = H ∧ n' = n) (fun T' _ _ => es.length - iv (T' 3)) ?_ ?_
  ·skip
   exact ⟨0, Nat.zero_le _, rfl, rfl, rfl⟩
  intro T1 H1 n1
  rintro ⟨i, hi, rfl, rfl, rfl⟩
  refine awp_seq_k fun K2 hK2 => ?_
  refine awp_reg zs [0, 3, 11] fun K hK => ?_
  try simp only [go_sem, seval, hobj]
  repeat refine peel ?_
  refine hK _ _ _ ?_; clear hK K
  refine awp_cnd (fun hb => ?_) (fun hb => ?_)
  ·skip
   have hlt : i < es.length := by simpa using hb
   have hnth : nth (es.map BS.av) i = BS.av (es.getD i default) := nth_map BS.av es i hlt
   have hntw : nth (ws.map entsAV) i = entsAV (ws.getD i []) := nth_map entsAV ws i (by omega)
   obtain ⟨xs, h1, h2, h3, h4, h5⟩ := hP.con i hlt
   have hsame : ∀ m, Ret Try.prog 18 [BS.av (es.getD i default), entsAV (ws.getD i [])] H1 m (.bool true) H1 m := fun m => by
     have h := c_ref3_SameAll (xs.map (·.e)) (ws.getD i []) (by rw [← h2]; exact hl _ (by simp [List.getD, List.getElem?_eq_getElem (show i < ws.length by omega)])) (fun _ => none) 0
     rw [show decide (xs.map (·.e) = ws.getD i []) = true by rw [h2]; simp] at h
     exact Ret.lend trivial (.cons (by show Frz H1 0 (.osl _ _ 0 _) _; rw [h1]; exact .osl h3 (Nat.zero_le _) (by simp) (by rw [List.drop_zero, List.take_of_length_le (by simp)]; exact lents_frz xs h4)) (.cons (.kl (kls_ents _ 0)) .nil)) h
   generalize es.getD i default = b at *
   generalize ws.getD i [] = w9 at *
   simp only [BS.av] at hnth hsame
   refine awp_skip ?_
   try simp only [go_sem, seval]
   refine hK2 _ _ _ ?_
   first | clear hK2 K2 | skip
   refine awp_seq_k fun K3 hK3 => ?_
   refine awp_block ?_
   refine awp_drw rfl zs [0, 3, 30] [.m, .q, .q, .q, .q, .m, .q, .q, .m, .q, .q, .q, .m, .q, .q, .c, .q] (by kernel_rfl) (fun _ _ _ _ _ h => h) fun K hK => ?_
   try simp only [go_sem, seval, hobj, hE, hW, hnth, hntw, Int.toNat_natCast]
   repeat (first | (refine And.intro ?_ ?_; · first | exact ⟨rfl, by omega, by omega⟩ | exact ⟨by omega, by omega⟩ | (simp; omega) | omega) | refine peel ?_)
   refine callQG_use Try.func18 rfl rfl rfl (fun _ n => (hsame _)) ?_
   try simp only [go_sem, seval, hobj, hE, hW, hnth, hntw, Int.toNat_natCast]
   repeat (first | (refine And.intro ?_ ?_; · first | exact ⟨rfl, by omega, by omega⟩ | exact ⟨by omega, by omega⟩ | (simp; omega) | omega) | refine peel ?_)
   refine hK _ _ _ ?_; clear hK K
   refine awp_cnd (fun hb => ?_) (fun hb => ?_)
   ·skip
    exact absurd hb (by decide)
    --dead
   ·skip
    refine awp_skip ?_
    try simp only [go_sem, seval]
    refine hK3 _ _ _ ?_
    first | clear hK3 K3 | skip
    refine awp_reg1 zs [0, 3] fun K hK => ?_
    try simp only [go_sem, seval]
    repeat refine peel ?_
    refine hK _ _ _ ?_; clear hK K
    try simp only [go_sem, seval]
    exact ⟨⟨i + 1, by omega, by rw [w1 (by omega)]⟩, by rw [w1 (by omega)]; simp; omega⟩
  ·skip
   have hge : i = es.length := by simp at hb; omega
   refine awp_exit ?_
   try simp only [go_sem, seval]
   refine hK1 _ _ _ ?_
   first | clear hK1 K1 | skip
   refine awp_rq zs [2] ?_
   refine awp_ret ?_
   try simp only [go_sem, seval]
   skip
end Go.Proofs.Ytijhkfhflpmajaa
namespace Go.Proofs.Ytijhkfhflpmajaa
open Go Go.Sx Go.Rt Go.Proofs
def callsE (s : List Fml) (clock t vn : Int) (l : List Ent) : List (List Ent) :=
  [(sortE l).1, (visE s clock l).1, (readE s clock t vn l).1, (squashE s clock false 0 l).1, (squashE s clock true t l).1]
theorem callsE_ok (s : List Fml) (clock t vn : Int) (l : List Ent) (hl : l.length ≤ 10000000) : ∀ E ∈ callsE s clock t vn l, (∀ e ∈ E, smallE e) ∧ E.length ≤ 20000001 := by
  intro E hE
  simp only [callsE, List.mem_cons, List.not_mem_nil, or_false] at hE
  rcases hE with rfl | rfl | rfl | rfl | rfl
  · exact ⟨(sortE_S l).1, by have := (sortE_S l).2; omega⟩
  · exact ⟨readE_S s clock _ _ l, by have := readE_len s clock 1099511627776 16 l; show (readE s clock 1099511627776 16 l).1.length ≤ _; omega⟩
  · exact ⟨readE_S s clock _ _ l, by have := readE_len s clock t vn l; omega⟩
  · exact ⟨squashE_S s clock _ _ l, by have := squashE_length s clock false 0 l; omega⟩
  · exact ⟨squashE_S s clock _ _ l, by have := squashE_length s clock true t l; omega⟩
theorem KpE.mono {kb kW M M' : Nat} {ws : List (List Ent)} {tg : Nat → Tg} {H : Heap} {n : Nat} (h : KpE kb kW M ws tg H n) (hM : M ≤ M') : KpE kb kW M' ws tg H n := by
  obtain ⟨A, bs, es, vW, e, h⟩ := h
  exact ⟨A, bs, es, vW, e, { h with bl := Nat.le_trans h.bl hM }⟩
theorem take_own {kb kW M : Nat} {ws : List (List Ent)} {tg : Nat → Tg} {H : Heap} {n : Nat} (hP : KpE kb kW M ws tg H n) {lo hi ko ver : Nat} {xs : List LEnt} (ho : OwnA H lo hi ko ver xs) (hfr : ∀ k, lo ≤ k → k < hi → tg k = .free ∧ k ≠ kW) (hhi : hi ≤ n) {E : List Ent} (hE : xs.map (·.e) = E) (hsm : (∀ e ∈ E, smallE e) ∧ E.length ≤ 20000001) (hM : M ≤ 900000000000) (hwl : ws.length < 1000000000) :
    ACalls Try.prog 36 [.loc kb 0 0 0 [], .osl ko ver 0 xs.length] H n fun res H' n' => res = .val (.tup []) ∧ n' = n ∧ ∃ tg', KpE kb kW (M + 60000003) (ws ++ [E]) tg' H' n ∧ (∀ k, k < lo ∨ hi ≤ k → tg' k = tg k) ∧ ∀ k, tg k = .free → k ≠ kW → H' k = H k := by
  have hl : xs.length ≤ 20000001 := by have := hsm.2; rw [← hE, List.length_map] at this; exact this
  have hk := fun k (hk : k ∈ xs.flatMap LEnt.ks) => ho.mine.in' hk
  refine (c_law_take kb kW M ws tg H n hP ko ver lo hi xs ho.at' ho.mine hhi (Nat.lt_of_lt_of_le ho.lt hhi) (hfr ko ho.ge ho.lt).1 (hfr ko ho.ge ho.lt).2 ho.ne (fun k h9 => hfr k (hk k h9).1 (hk k h9).2) (fun x hx => hsm.1 _ (by rw [← hE]; exact List.mem_map_of_mem hx)) (by omega) (by omega) hwl).mono fun res H' n' ⟨h1, h2, ⟨tg', h3, h4⟩, h5⟩ => ?_
  subst h2
  rw [hE] at h3
  exact ⟨h1, rfl, tg', h3.mono (by omega), fun k h9 => h4 k (fun e => by have := ho.ge; have := ho.lt; omega) (fun h8 => by have := hk k h8; omega), h5⟩
def oAV (k0 : Int) (s : List Fml) (clock t vn : Int) (mj : Bool) (l : List Ent) : AV := .agg [.int .i64 k0, schAV s, .int .i64 clock, .int .i64 t, .int .i64 vn, .bool mj, entsAV l]
set_option maxHeartbeats 1600000 in
theorem c_law_calls (kb kW M : Nat) (ws : List (List Ent)) (tg : Nat → Tg) (H : Heap) (n : Nat) (hP : KpE kb kW M ws tg H n) (k0 : Int) (s : List Fml) (clock t vn : Int) (mj : Bool) (l0 l : List Ent) (hl : l.length ≤ 10000000) (hM : M ≤ 800000000000) (hwl : ws.length < 999999990) :
    ACalls Try.prog 28 [.loc kb 0 0 0 [], oAV k0 s clock t vn mj l0, entsAV l] H n fun res H' n' => res = .val (.tup []) ∧ n ≤ n' ∧ (∃ tg', KpE kb kW (M + 300000015) (ws ++ callsE s clock t vn l) tg' H' n' ∧ ∀ k, k < n → tg' k = tg k) ∧ ∀ k, k < n → tg k = .free → k ≠ kW → H' k = H k := by
  have hEok := callsE_ok s clock t vn l hl
  obtain ⟨hWn, htl, htW, htb⟩ := hP.lt
  have hfree : ∀ k, n ≤ k → tg k = .free := fun k hk => Classical.byContradiction fun hne => by have := htl k hne; omega
  have r4 : (0 : Nat) = 0 := rfl
  refine acalls_of_awp Try.func28 rfl Try.ntmps28 (congrArg Array.toList Try.results28) (by simp) ?_
  simp only [go_sem]
  refine awp_reg zs [0, 2, 4] fun K hK => ?_
  try simp only [go_sem, seval, r4, oAV]
  repeat refine peel ?_
  refine hK _ _ _ ?_; clear hK K
  refine awp_reg zs [0, 2, 4, 6] fun K hK => ?_
  try simp only [go_sem, seval, r4, oAV]
  repeat refine peel ?_
  refine callK_useK (args' := [entsAV l]) Try.func23 rfl rfl rfl (o_retain_Sort l (by omega) _ (n + 1)) ?_ ?_
  rotate_left
  · intro p H' n' h; obtain ⟨_, _, _, hx, _⟩ := h; cases hx
  rintro rr H2 n2 ⟨k1, v1, x1, hr2, he1, ho1, hn2, hl2⟩
  cases hr2
  have r4 : H2 n = some (.arr 0 7 [oAV k0 s clock t vn mj l0]) := (hl2 n (by omega)).trans (Heap.put_same _ _ _)
  simp only [oAV, schAV] at r4
  try simp only [go_sem, seval, r4, oAV]
  repeat refine peel ?_
  refine hK _ _ _ ?_; clear hK K
  refine awp_reg zs [0, 2, 4, 6, 8] fun K hK => ?_
  try simp only [go_sem, seval, r4, oAV]
  repeat refine peel ?_
  refine callK_useK (args' := [schAV s, .int .i64 clock, entsAV l]) Try.func19 rfl rfl rfl (o_retain_Vis s clock l (by omega) _ n2) ?_ ?_
  rotate_left
  · intro p H' n' h; obtain ⟨_, _, _, hx, _⟩ := h; cases hx
  rintro rr H3 n3 ⟨k2, v2, x2, hr2, he2, ho2, hn3, hl3⟩
  cases hr2
  have r4 := (hl3 n (by omega)).trans r4
  try simp only [go_sem, seval, r4, oAV]
  repeat refine peel ?_
  refine hK _ _ _ ?_; clear hK K
  refine awp_reg zs [0, 2, 4, 6, 8, 10] fun K hK => ?_
  try simp only [go_sem, seval, r4, oAV]
  repeat refine peel ?_
  refine callK_useK (args' := [schAV s, .int .i64 clock, .int .i64 t, .int .i64 vn, entsAV l]) Try.func24 rfl rfl rfl (o_retain_Read s clock t vn l (by omega) _ n3) ?_ ?_
  rotate_left
  · intro p H' n' h; obtain ⟨_, _, _, hx, _⟩ := h; cases hx
  rintro rr H4 n4 ⟨k3, v3, x3, hr2, he3, ho3, hn4, hl4⟩
  cases hr2
  have r4 := (hl4 n (by omega)).trans r4
  try simp only [go_sem, seval, r4, oAV]
  repeat refine peel ?_
  refine hK _ _ _ ?_; clear hK K
  refine awp_reg zs [0, 2, 4, 6, 8, 10, 12] fun K hK => ?_
  try simp only [go_sem, seval, r4, oAV]
  repeat refine peel ?_
  refine callK_useK (args' := [schAV s, .int .i64 clock, .bool false, .int .i64 0, entsAV l]) Try.func15 rfl rfl rfl (o_retain_Squash s clock 0 false l (by omega) _ n4) ?_ ?_
  rotate_left
  · intro p H' n' h; obtain ⟨_, _, _, hx, _⟩ := h; cases hx
  rintro rr H5 n5 ⟨k4, v4, x4, hr2, he4, ho4, hn5, hl5⟩
  cases hr2
  have r4 := (hl5 n (by omega)).trans r4
  try simp only [go_sem, seval, r4, oAV]
  repeat refine peel ?_
  refine hK _ _ _ ?_; clear hK K
  refine awp_reg zs [0, 6, 8, 10, 12, 14] fun K hK => ?_
  try simp only [go_sem, seval, r4, oAV]
  repeat refine peel ?_
  refine callK_useK (args' := [schAV s, .int .i64 clock, .bool true, .int .i64 t, entsAV l]) Try.func15 rfl rfl rfl (o_retain_Squash s clock t true l (by omega) _ n5) ?_ ?_
  rotate_left
  · intro p H' n' h; obtain ⟨_, _, _, hx, _⟩ := h; cases hx
  rintro rr H6 n6 ⟨k5, v5, x5, hr2, he5, ho5, hn6, hl6⟩
  cases hr2
  have r4 := (hl6 n (by omega)).trans r4
  have hlow6 : ∀ k, k < n → H6 k = H k := fun k hk => (hl6 k (by omega)).trans ((hl5 k (by omega)).trans ((hl4 k (by omega)).trans ((hl3 k (by omega)).trans ((hl2 k (by omega)).trans (Heap.put_ne _ _ (by omega))))))
  have hP0 := hP.frame (H' := H6) (n' := n6) (by omega) (hlow6 kW hWn) (fun k hk => hlow6 k (htl k hk))
  have g1 := ho1.mono (H' := H6) (fun k _ h2 => (hl6 k (by omega)).trans ((hl5 k (by omega)).trans ((hl4 k (by omega)).trans (hl3 k h2)))) (Nat.le_refl _)
  have g2 := ho2.mono (H' := H6) (fun k _ h2 => (hl6 k (by omega)).trans ((hl5 k (by omega)).trans (hl4 k h2))) (Nat.le_refl _)
  have g3 := ho3.mono (H' := H6) (fun k _ h2 => (hl6 k (by omega)).trans (hl5 k h2)) (Nat.le_refl _)
  have g4 := ho4.mono (H' := H6) (fun k _ h2 => hl6 k h2) (Nat.le_refl _)
  have g5 := ho5
  have f0 : ∀ k, n ≤ k → tg k = .free ∧ k ≠ kW := fun k hk => ⟨hfree k hk, by omega⟩
  try simp only [go_sem, seval, r4, oAV]
  repeat refine peel ?_
  refine hK _ _ _ ?_; clear hK K
  refine awp_reg zs [0, 8, 10, 12, 14] fun K hK => ?_
  try simp only [go_sem, seval, r4, oAV]
  repeat refine peel ?_
  refine callK_useK (args' := [.loc kb 0 0 0 [], .osl k1 v1 0 x1.length]) Try.func36 rfl rfl rfl (take_own hP0 g1 (fun k h1 h2 => f0 k (by omega) ) (by omega) he1 (hEok _ (by simp [callsE])) (by omega) (by omega)) ?_ ?_
  rotate_left
  · intro p H' n' h; cases h.1
  rintro rr G1 m1 ⟨hr2, hm9, tg1, hP1, ht1, hh1⟩
  cases hr2
  subst hm9
  have f1 : ∀ k, n ≤ k → n2 ≤ k → tg1 k = .free ∧ k ≠ kW := fun k h1 h2 => ⟨(ht1 k (.inr h2)).trans (f0 k h1 ).1, (f0 k h1).2⟩
  have g2 := g2.mono (H' := G1) (fun k h1 h2 => hh1 k (f0 k (by omega) ).1 (f0 k (by omega)).2) (Nat.le_refl _)
  have g3 := g3.mono (H' := G1) (fun k h1 h2 => hh1 k (f0 k (by omega) ).1 (f0 k (by omega)).2) (Nat.le_refl _)
  have g4 := g4.mono (H' := G1) (fun k h1 h2 => hh1 k (f0 k (by omega) ).1 (f0 k (by omega)).2) (Nat.le_refl _)
  have g5 := g5.mono (H' := G1) (fun k h1 h2 => hh1 k (f0 k (by omega) ).1 (f0 k (by omega)).2) (Nat.le_refl _)
  try simp only [go_sem, seval, r4, oAV]
  repeat refine peel ?_
  refine hK _ _ _ ?_; clear hK K
  refine awp_reg zs [0, 10, 12, 14] fun K hK => ?_
  try simp only [go_sem, seval, r4, oAV]
  repeat refine peel ?_
  refine callK_useK (args' := [.loc kb 0 0 0 [], .osl k2 v2 0 x2.length]) Try.func36 rfl rfl rfl (take_own hP1 g2 (fun k h1 h2 => f1 k (by omega) (by omega)) (by omega) he2 (hEok _ (by simp [callsE])) (by omega) (by simp only [List.length_append, List.length_singleton]; omega)) ?_ ?_
  rotate_left
  · intro p H' n' h; cases h.1
  rintro rr G2 m2 ⟨hr2, hm9, tg2, hP2, ht2, hh2⟩
  cases hr2
  subst hm9
  have f2 : ∀ k, n ≤ k → n3 ≤ k → tg2 k = .free ∧ k ≠ kW := fun k h1 h2 => ⟨(ht2 k (.inr h2)).trans (f1 k h1 (by omega)).1, (f0 k h1).2⟩
  have g3 := g3.mono (H' := G2) (fun k h1 h2 => hh2 k (f1 k (by omega) (by omega)).1 (f0 k (by omega)).2) (Nat.le_refl _)
  have g4 := g4.mono (H' := G2) (fun k h1 h2 => hh2 k (f1 k (by omega) (by omega)).1 (f0 k (by omega)).2) (Nat.le_refl _)
  have g5 := g5.mono (H' := G2) (fun k h1 h2 => hh2 k (f1 k (by omega) (by omega)).1 (f0 k (by omega)).2) (Nat.le_refl _)
  try simp only [go_sem, seval, r4, oAV]
  repeat refine peel ?_
  refine hK _ _ _ ?_; clear hK K
  refine awp_reg zs [0, 12, 14] fun K hK => ?_
  try simp only [go_sem, seval, r4, oAV]
  repeat refine peel ?_
  refine callK_useK (args' := [.loc kb 0 0 0 [], .osl k3 v3 0 x3.length]) Try.func36 rfl rfl rfl (take_own hP2 g3 (fun k h1 h2 => f2 k (by omega) (by omega)) (by omega) he3 (hEok _ (by simp [callsE])) (by omega) (by simp only [List.length_append, List.length_singleton]; omega)) ?_ ?_
  rotate_left
  · intro p H' n' h; cases h.1
  rintro rr G3 m3 ⟨hr2, hm9, tg3, hP3, ht3, hh3⟩
  cases hr2
  subst hm9
  have f3 : ∀ k, n ≤ k → n4 ≤ k → tg3 k = .free ∧ k ≠ kW := fun k h1 h2 => ⟨(ht3 k (.inr h2)).trans (f2 k h1 (by omega)).1, (f0 k h1).2⟩
  have g4 := g4.mono (H' := G3) (fun k h1 h2 => hh3 k (f2 k (by omega) (by omega)).1 (f0 k (by omega)).2) (Nat.le_refl _)
  have g5 := g5.mono (H' := G3) (fun k h1 h2 => hh3 k (f2 k (by omega) (by omega)).1 (f0 k (by omega)).2) (Nat.le_refl _)
  try simp only [go_sem, seval, r4, oAV]
  repeat refine peel ?_
  refine hK _ _ _ ?_; clear hK K
  refine awp_reg zs [0, 14] fun K hK => ?_
  try simp only [go_sem, seval, r4, oAV]
  repeat refine peel ?_
  refine callK_useK (args' := [.loc kb 0 0 0 [], .osl k4 v4 0 x4.length]) Try.func36 rfl rfl rfl (take_own hP3 g4 (fun k h1 h2 => f3 k (by omega) (by omega)) (by omega) he4 (hEok _ (by simp [callsE])) (by omega) (by simp only [List.length_append, List.length_singleton]; omega)) ?_ ?_
  rotate_left
  · intro p H' n' h; cases h.1
  rintro rr G4 m4 ⟨hr2, hm9, tg4, hP4, ht4, hh4⟩
  cases hr2
  subst hm9
  have f4 : ∀ k, n ≤ k → n5 ≤ k → tg4 k = .free ∧ k ≠ kW := fun k h1 h2 => ⟨(ht4 k (.inr h2)).trans (f3 k h1 (by omega)).1, (f0 k h1).2⟩
  have g5 := g5.mono (H' := G4) (fun k h1 h2 => hh4 k (f3 k (by omega) (by omega)).1 (f0 k (by omega)).2) (Nat.le_refl _)
  try simp only [go_sem, seval, r4, oAV]
  repeat refine peel ?_
  refine hK _ _ _ ?_; clear hK K
  refine awp_reg1 zs [] fun K hK => ?_
  try simp only [go_sem, seval, r4, oAV]
  repeat refine peel ?_
  refine callK_useK (args' := [.loc kb 0 0 0 [], .osl k5 v5 0 x5.length]) Try.func36 rfl rfl rfl (take_own hP4 g5 (fun k h1 h2 => f4 k (by omega) (by omega)) (by omega) he5 (hEok _ (by simp [callsE])) (by omega) (by simp only [List.length_append, List.length_singleton]; omega)) ?_ ?_
  rotate_left
  · intro p H' n' h; cases h.1
  rintro rr G5 m5 ⟨hr2, hm9, tg5, hP5, ht5, hh5⟩
  cases hr2
  subst hm9
  try simp only [go_sem, seval, r4, oAV]
  repeat refine peel ?_
  refine hK _ _ _ ?_; clear hK K
  try simp only [go_sem, seval, r4, oAV]
  try simp only [go_sem, seval, r4, oAV]
  have tt : ∀ k, k < n → tg5 k = tg k := fun k hk => (ht5 k (.inl (by omega))).trans ((ht4 k (.inl (by omega))).trans ((ht3 k (.inl (by omega))).trans ((ht2 k (.inl (by omega))).trans (ht1 k (.inl (by omega))))))
  refine ⟨by omega, ⟨tg5, ?_, tt⟩, fun k h1 h2 h3 => ?_⟩
  · have h9 := hP5
    simp only [List.append_assoc, List.cons_append, List.nil_append] at h9
    exact h9.mono (by omega)
  · have e1 : tg1 k = .free := (ht1 k (.inl (by omega))).trans h2
    have e2 : tg2 k = .free := (ht2 k (.inl (by omega))).trans e1
    have e3 : tg3 k = .free := (ht3 k (.inl (by omega))).trans e2
    have e4 : tg4 k = .free := (ht4 k (.inl (by omega))).trans e3
    rw [hh5 k e4 h3, hh4 k e3 h3, hh3 k e2 h3, hh2 k e1 h3, hh1 k h2 h3]; exact hlow6 k h1
end Go.Proofs.Ytijhkfhflpmajaa
namespace Go.Proofs.Ytijhkfhflpmajaa
open Go Go.Sx Go.Rt Go.Proofs Go.ChangeShapes Go.WideShapes Go.ChangeAt Go.RowKit
structure OE where
  kind : Int
  s : List Fml
  clock : Int
  t : Int
  n : Int
  major : Bool
  l : List Ent
def oeAV (o : OE) : AV := oAV o.kind o.s o.clock o.t o.n o.major o.l
section
variable {H : Type} {enc : TypeId × Value → H} {W : World}
def SBool (a : AV) (m : Nat) : Prop := ∃ b, a = .bool b ∧ m = 1
def SOe := sAgg [S64, SSch, S64, S64, S64, SBool, SEnts]
theorem sOe_av {a : AV} {m : Nat} (h : SOe a m) : ∃ o : OE, a = oeAV o ∧ o.s.length ≤ m ∧ o.l.length ≤ m ∧ ∀ e ∈ o.l, e.row.length + e.qual.length + e.value.length ≤ m := by
  obtain ⟨xs, rfl, hx, rfl⟩ := h
  obtain ⟨x0, xs, rfl, h0, hx⟩ := SAll_cons hx
  obtain ⟨x1, xs, rfl, h1, hx⟩ := SAll_cons hx
  obtain ⟨x2, xs, rfl, h2, hx⟩ := SAll_cons hx
  obtain ⟨x3, xs, rfl, h3, hx⟩ := SAll_cons hx
  obtain ⟨x4, xs, rfl, h4, hx⟩ := SAll_cons hx
  obtain ⟨x5, xs, rfl, h5, hx⟩ := SAll_cons hx
  obtain ⟨x6, xs, rfl, h6, hx⟩ := SAll_cons hx
  obtain rfl := SAll_nil hx
  obtain ⟨n0, e0, _, _⟩ := h0
  obtain ⟨s, e1, l1⟩ := sSch_av h1
  obtain ⟨n2, e2, _, _⟩ := h2
  obtain ⟨n3, e3, _, _⟩ := h3
  obtain ⟨n4, e4, _, _⟩ := h4
  obtain ⟨b5, e5, _⟩ := h5
  obtain ⟨l, e6, l6, l7⟩ := sEnts_av h6
  refine ⟨⟨n0, s, n2, n3, n4, b5, l⟩, by simp [oeAV, oAV, e0, e1, e2, e3, e4, e5, e6], ?_, ?_, fun e he => ?_⟩
  · simp only [List.map_cons, List.map_nil, List.sum_cons, List.sum_nil]; omega
  · simp only [List.map_cons, List.map_nil, List.sum_cons, List.sum_nil]; omega
  · have := l7 e he
    simp only [List.map_cons, List.map_nil, List.sum_cons, List.sum_nil]; omega
theorem rOe : Reads enc Try.prog W Rows.uptoBulk 60 SOe := reads_struct bulkOK Try.underlying60
  (fld_cons rfl r64 (off' := 1) (by kernel_rfl) (fld_cons rfl rSch (off' := 2) (by kernel_rfl) (fld_cons rfl r64 (off' := 3) (by kernel_rfl) (fld_cons rfl r64 (off' := 4) (by kernel_rfl) (fld_cons rfl r64 (off' := 5) (by kernel_rfl) (fld_cons rfl (reads_bool bulkOK Try.underlying4) (off' := 6) (by kernel_rfl) (fld_cons rfl rEnts (off' := 7) (by kernel_rfl) (fld_nil (by kernel_rfl)))))))))
set_option maxRecDepth 100000 in
theorem argOe {v : Value} {d : DataW H} {ps : List MemPlace} (hv : Value.okWide Try.prog W .any 0 60 v) (h : DataW.Trod enc Try.prog W 0 (fun _ => true) true 60 v d ps) :
    ∃ o : OE, Rel (c0 W) (oeAV o) false [v] ∧ o.s.length ≤ Rows.uptoBulk d ∧ o.l.length ≤ Rows.uptoBulk d ∧ ∀ e ∈ o.l, e.row.length + e.qual.length + e.value.length ≤ Rows.uptoBulk d := by
  obtain ⟨a, m, h1, h2, h3⟩ := reads_arg rOe h
  obtain ⟨o, rfl, h4, h5, h6⟩ := sOe_av h1
  refine ⟨o, rel_flat h2 (fun _ => ?_) (fun h => by simp [oeAV, oAV, AV.isAgg] at h), by omega, by omega, fun e he => by have := h6 e he; omega⟩
  obtain ⟨cs, hcs, _⟩ := okWide_struct Try.underlying60 hv
  exact ⟨cs, hcs⟩
end
end Go.Proofs.Ytijhkfhflpmajaa
namespace Go.Proofs.Ytijhkfhflpmajaa
open Go Go.Sx Go.Rt Go.Proofs
end Go.Proofs.Ytijhkfhflpmajaa