/- Own layer: a question that is laid out of longer lists, walked. Of the program; no condition. -/
import Derived.Test.YtkmkbndcekklmaaGreatDoorPK
import Derived.Test.YtkmkbndcekklmaaGreatDoorPF
set_option linter.unusedSimpArgs false
set_option linter.unusedVariables false
set_option maxRecDepth 10000
namespace Go.Proofs.YtkmkbndcekklmaaGreatDoor
open Go Go.Sx Go.Rt Go.Proofs Tryz
structure LdS (q : QryE) (k1 k2 k3 k4 kw kf vf : Nat) (H : Heap) : Prop where
 h1 : H k1 = some (Xu (k1, q.frm))
 h2 : H k2 = some (Xu (k2, q.to))
 h3 : H k3 = some (Xu (k3, q.pre))
 h4 : H k4 = some (Xu (k4, q.token))
 hw : H kw = some (.arr 0 1 [YK (k1, q.frm), YK (k2, q.to), YK (k3, q.pre), YK (k4, q.token)])
 hf : H kf = some (.arr vf 1 ((q.fams ++ [-77]).map fun x : Int => (.int .i64 x : AV)))
 d : (k1 ≠ k2 ∧ k1 ≠ k3 ∧ k1 ≠ k4 ∧ k2 ≠ k3 ∧ k2 ≠ k4 ∧ k3 ≠ k4) ∧ (kw ≠ k1 ∧ kw ≠ k2 ∧ kw ≠ k3 ∧ kw ≠ k4) ∧ (kf ≠ k1 ∧ kf ≠ k2 ∧ kf ≠ k3 ∧ kf ≠ k4 ∧ kf ≠ kw)
def Jj (q : QryE) (k1 k2 k3 k4 kf vf : Nat) : AV := qaX q (.osl k1 2 0 q.frm.length) (.osl k2 2 0 q.to.length) (.osl kf vf 0 q.fams.length) (.osl k3 2 0 q.pre.length) (.osl k4 2 0 q.token.length)
def Xq (q : QryE) (k1 k2 k3 k4 kw kf vf : Nat) : AV := .agg [Jj q k1 k2 k3 k4 kf vf, .osl kw 0 0 4, .osl kf vf 0 (q.fams.length + 1)]
theorem LdS.on {q : QryE} {k1 k2 k3 k4 kw kf vf : Nat} {H H' : Heap} (h : LdS q k1 k2 k3 k4 kw kf vf H) (hH : ∀ k, k = k1 ∨ k = k2 ∨ k = k3 ∨ k = k4 ∨ k = kw ∨ k = kf → H' k = H k) : LdS q k1 k2 k3 k4 kw kf vf H' :=
 ⟨(hH _ osi).trans h.h1, (hH _ osi).trans h.h2, (hH _ osi).trans h.h3, (hH _ osi).trans h.h4, (hH _ osi).trans h.hw, (hH _ osi).trans h.hf, h.d⟩
theorem LdS.ql {q : QryE} {k1 k2 k3 k4 kw kf vf : Nat} {H : Heap} (h : LdS q k1 k2 k3 k4 kw kf vf H) : QL [k1, k2, kf, k3, k4] H q (.osl k1 2 0 q.frm.length) (.osl k2 2 0 q.to.length) (.osl kf vf 0 q.fams.length) (.osl k3 2 0 q.pre.length) (.osl k4 2 0 q.token.length) := by
 have hf : Own H (.osl kf vf 0 q.fams.length) (Zx q.fams) [kf] := .osl h.hf osi (by rw [← List.map_take, List.take_left]; exact Pt _ (fun x hx => by obtain ⟨y, _, rfl⟩ := List.mem_map.1 hx; trivial))
 exact QL.own (VQ h.h1) (VQ h.h2) hf (VQ h.h3) (VQ h.h4)
def LaidK (q : QryE) (H : Heap) (n : Nat) (res : ARes) (H' : Heap) (n' : Nat) : Prop :=
 n ≤ n' ∧ (∀ k, k < n → H' k = H k) ∧ ∃ k1 k2 k3 k4 kw kf vf, res = .val (Xq q k1 k2 k3 k4 kw kf vf) ∧ LdS q k1 k2 k3 k4 kw kf vf H' ∧ ∀ k, k = k1 ∨ k = k2 ∨ k = k3 ∨ k = k4 ∨ k = kw ∨ k = kf → n ≤ k ∧ k < n'
theorem NE20.eqs {P Q : Prop} (g : Imp P Q := by (try simp only [go_sem, seval, hsz, hag, hmo, f1, f2, f3, f4, f5, hE, Ze, Zx, bys, Nat.add_assoc, List.length_map, List.length_append, Int.toNat_natCast, Option.getD_some, Option.getD_none, Nat.sub_zero]); exact Pb) : Imp P Q := g
theorem NE20.sd {P : Prop} (g : P := by first | exact ⟨rfl, by (simp [AV.sz, AV.memOK]; first | done | fail)⟩ | exact ⟨om, .inr trivial, om, om⟩ | exact ⟨.inr trivial, om, om⟩ | omega | fail) : P := g
set_option maxRecDepth 100000 in
set_option maxHeartbeats 3200000 in
open NE20 NZ in
theorem x_law13_laid (q : QryE) (hq : q.fine) (H : Heap) (n : Nat) : Zl prog 33 [Ze q] H n (LaidK q H n) := by
 have hsz : (Ze q).sz = 10 := ZG q
 have hag : (Ze q).isAgg = true := rfl
 have hmo : (Ze q).memOK = true := rfl
 have h1 := hq.frm
 have h2 := hq.to
 have h3 := hq.pre
 have h4 := hq.token
 have h5 := hq.fams
 have f1 : (n = n + 1) = False := osi
 have f2 : (n = n + 2) = False := osi
 have f3 : (n + 2 = n) = False := osi
 have f4 : (n = n + 3) = False := osi
 have f5 : (n + 2 = n + 3) = False := osi
 have hE : List.take q.fams.length (List.map (fun x : Int => (.int .i64 x : AV)) q.fams) = List.map (fun x : Int => (.int .i64 x : AV)) q.fams := List.take_of_length_le osi
 refine fw func33 ntmps33 results33 ?_
 refine rg zs [1, 2] ?_
 refine rg zs [1, 2, 3] ?_
 refine Z5 (n + 2) 1 (ver := 0) (e := 12) (els := [.agg [Ze q, .nilsl, .nilsl]]) (els' := [.agg [Ze q, .nilsl, .osl (n + 3) 0 0 0]]) ohr ⟨Adp.agg ⟨.refl _ _, .refl _ _, Adp.nilsl _, trivial⟩, trivial⟩ ?_
 refine rk zs [1, 2, 3, 4, 5] fun K V => ?_
 refine ck func65 ((Xb q.frm om _ _)) ?_
 refine kas ?_
 refine rk zs [1, 2, 3, 4, 5, 6, 7] fun K V => ?_
 refine ck func65 ((Xb q.to om _ _)) ?_
 refine kas ?_
 refine rk zs [1, 2, 3, 4, 5, 6, 7, 8, 9] fun K V => ?_
 refine ck func65 ((Xb q.pre om _ _)) ?_
 refine kas ?_
 refine rk zs [1, 2, 3, 4, 5, 6, 7, 8, 9, 10, 11] fun K V => ?_
 refine ck func65 ((Xb q.token om _ _)) ?_
 refine kas ?_
 refine rg zo [1, 2, 3, 4, 6, 8, 10] ?_
 refine rg zs [1, 2, 3, 4, 6, 8, 10] ?_
 refine rg zs [1, 2, 3, 6, 8, 10] ?_
 refine rg zs [1, 2, 3, 8, 10] ?_
 refine rg zs [1, 2, 3, 10] ?_
 refine rg zs [1, 2, 3] ?_
 refine rg zs [2, 3] ?_
 refine kal ?_
 refine ⟨om, fun k hk => oh, n + 4, n + 5, n + 6, n + 7, n + 8, n + 3, 2, rfl, ⟨oh, oh, oh, oh, ohr, by refine ohx ?_; rw [List.map_append]; rfl, om⟩, fun k hk => om⟩
theorem nth_mem2 {l : List AV} {i : Nat} (h : i < l.length) : nth l i ∈ l := by simp [nth, List.getD, List.getElem?_eq_getElem h]
def ldB (q : QryE) (k1 k2 k3 k4 : Nat) : List (Nat × List UInt8) := [(k1, q.frm), (k2, q.to), (k3, q.pre), (k4, q.token)]
theorem mem_drop {α : Type} [Inhabited α] {l : List α} {i : Nat} (h : i < l.length) : ∀ x ∈ l.drop (i + 1), x ∈ l.drop i := fun x hx => by rw [YM l i h]; exact List.mem_cons_of_mem _ hx
theorem frz_marks {H : Heap} {p : Nat × List UInt8} (h : H p.1 = some (Xu p)) : Frz H 0 (.osl p.1 2 p.2.length 5) (bys Wq) := by
 refine .osl h (Nat.zero_le _) (by simp [Wq]) ?_
 rw [List.map_append, List.drop_append_of_le_length osi, List.drop_of_length_le osi, List.nil_append, List.take_of_length_le (by simp [Wq])]
 exact XI _ (ZN _ _)
def KeptK (q : QryE) (k1 k2 k3 k4 kf : Nat) (H : Heap) (n : Nat) (res : ARes) (H' : Heap) (n' : Nat) : Prop :=
 n ≤ n' ∧ (∀ k, k < n → k ≠ k1 → k ≠ k2 → k ≠ k3 → k ≠ k4 → k ≠ kf → H' k = H k) ∧ res = .val (.bool true)
theorem NE21.eqs {P Q : Prop} (g : Imp P Q := by (try simp only [go_sem, seval, hsz, hag, hmo, f1, f2, b1, b2, b3, b4, g1, g2, g3, g4, hnth, e1, e2, e3, e4, hfn, hf0, g5, g6, hpo1, Xq, Jj, qaX, Ze, Zx, bys, YK, Nat.add_assoc, List.length_map, List.length_append, List.length_cons, List.length_nil, Int.toNat_natCast, Option.getD_some, Option.getD_none, Nat.zero_add]); exact Pb) : Imp P Q := g
theorem NE21.sd {P : Prop} (g : P := by first | exact fun _ => ⟨om, om⟩ | (intro _; omega) | exact ⟨om, hez _ (nth_mem2 om)⟩ | fail) : P := g
set_option maxRecDepth 100000 in
set_option maxHeartbeats 6400000 in
open NE21 NZ in
theorem JM (q : QryE) (hq : q.fine) (k1 k2 k3 k4 kw kf vf : Nat) (H : Heap) (n : Nat) (h : LdS q k1 k2 k3 k4 kw kf vf H) (hk : ∀ k, k = k1 ∨ k = k2 ∨ k = k3 ∨ k = k4 ∨ k = kw ∨ k = kf → k < n) :
   Zl prog 35 [Xq q k1 k2 k3 k4 kw kf vf, Ze q] H n (KeptK q k1 k2 k3 k4 kf H n) := by
 have hsz : (Ze q).sz = 10 := ZG q
 have hag : (Ze q).isAgg = true := rfl
 have hmo : (Ze q).memOK = true := rfl
 have d1 := hk k1 osi
 have d2 := hk k2 osi
 have d3 := hk k3 osi
 have d4 := hk k4 osi
 have d5 := hk kw osi
 have d6 := hk kf osi
 obtain ⟨q1, q2, q3⟩ := h.d
 have hB : ∀ p ∈ ldB q k1 k2 k3 k4, p.1 < n ∧ p.1 ≠ kw ∧ p.1 ≠ kf ∧ p.2.length ≤ 1048576 := fun p hp => by
   have h1 := hq.frm; have h2 := hq.to; have h3 := hq.pre; have h4 := hq.token
   simp only [ldB, List.mem_cons, List.not_mem_nil, or_false] at hp
   rcases hp with rfl | rfl | rfl | rfl <;> simp only <;> omega
 have hBd : ((ldB q k1 k2 k3 k4).map (·.1)).Nodup := by simp [ldB]; omega
 have hBl : (ldB q k1 k2 k3 k4).length = 4 := rfl
 have hw0 : H kw = some (.arr 0 1 ((ldB q k1 k2 k3 k4).map YK)) := h.hw
 have hb0 : ∀ p ∈ ldB q k1 k2 k3 k4, H p.1 = some (Xu p) := fun p hp => by
   simp only [ldB, List.mem_cons, List.not_mem_nil, or_false] at hp
   rcases hp with rfl | rfl | rfl | rfl
   ·exact h.h1
   ·exact h.h2
   ·exact h.h3
   ·exact h.h4
 have hf0 := h.hf
 have hfl := hq.fams
 have hsQ : ∀ (Hc : Heap), (∀ k, k < n → Hc k = H k) → ∀ m, Ret prog 44 [Jj q k1 k2 k3 k4 kf vf, Ze q] Hc m (.bool true) Hc m := fun Hc hc m => by
   have := Kr q q hq.fams hq.fams (fun _ => none) 0
   rw [decide_eq_true rfl] at this
   exact Ret.lend trivial (.cons (h.on fun k hk2 => hc k (hk k hk2)).ql.frz (.cons (.kl (kl_qry q 0)) .nil)) this
 have f1 : (n = n + 1) = False := osi
 have f2 : (n + 1 = n) = False := osi
 have b1 := hsz
 have b2 := hsz
 have b3 := hsz
 have b4 := hsz
 have g1 : (kf = n) = False := oz
 have g2 : (kf = n + 1) = False := oz
 have g3 : (kw = n) = False := oz
 have g4 : (kw = n + 1) = False := oz
 have hnth := hsz
 have e1 := hsz
 have e2 := hsz
 have e3 := hsz
 have e4 := hsz
 have g5 := hsz
 have g6 := hsz
 have hpo1 := hsz
 have hfn : nth (List.map (fun x : Int => (.int .i64 x : AV)) (q.fams ++ [-77])) q.fams.length = .int .i64 (-77) := by
   rw [Zt (fun x : Int => (.int .i64 x : AV)) (q.fams ++ [-77]) q.fams.length osi]; simp [List.getD]
 refine fw func35 ntmps35 results35 ?_
 refine rg zs [2, 3] ?_
 refine rk zs [2, 5] fun K V => ?_
 refine ck func44 ((hsQ _ (fun k hk => oh) _)) ?_
 apply V; clear V K
 refine Zb fun K1 hK1 => ?_
 refine rg zs [2, 5, 6] ?_
 refine Zu ?_
 refine Zo (fun T' H' n' => ∃ i : Nat, i ≤ 4 ∧ T' = tl [(2, .loc n 0 0 0 []), (5, .bool true), (6, .int .i64 i)] ∧ H' n = some (.arr 0 12 [Xq q k1 k2 k3 k4 kw kf vf]) ∧ H' kw = some (.arr 0 1 ((ldB q k1 k2 k3 k4).map YK)) ∧ H' kf = some (.arr vf 1 ((q.fams ++ [-77]).map fun x : Int => (.int .i64 x : AV))) ∧ (∀ p ∈ (ldB q k1 k2 k3 k4).drop i, H' p.1 = some (Xu p)) ∧ (∀ k, k < n → k ≠ k1 → k ≠ k2 → k ≠ k3 → k ≠ k4 → k ≠ kf → H' k = H k) ∧ n' = n + 2) (fun T' _ _ => 4 - iv (T' 6)) ?_ ?_
 ·exact ⟨0, om, rfl, ohr, ohx hw0, ohx hf0, fun p hp => by have := hB p hp; refine ohx ?_; exact hb0 p hp, fun k a1 a2 a3 a4 a5 a6 => oh, rfl⟩
 rintro T1 H1 n1 ⟨i, hi, rfl, b1, b2, b3, hdr, hlow, rfl⟩
 unfold Xq Jj qaX at b1
 refine Zb fun K2 hK2 => ?_
 refine rg zs [2, 5, 6, 28] ?_
 refine Za ?_ ?_ <;> intro hb
 ·have hci : i < (ldB q k1 k2 k3 k4).length := by rw [hBl]; have := of_decide_eq_true hb; omega
  have hnth : nth ((ldB q k1 k2 k3 k4).map YK) i = YK ((ldB q k1 k2 k3 k4).getD i default) := Zt YK _ i hci
  have hpm := Yy (ldB q k1 k2 k3 k4) hci
  have hpd : (ldB q k1 k2 k3 k4).getD i default ∈ (ldB q k1 k2 k3 k4).drop i := by rw [YM _ i hci]; simp
  have hpo := hdr _ hpd
  have hne : ∀ p ∈ (ldB q k1 k2 k3 k4).drop (i + 1), p.1 ≠ ((ldB q k1 k2 k3 k4).getD i default).1 := fun p hp e => by
    have hn := hBd
    rw [← List.take_append_drop i (ldB q k1 k2 k3 k4), YM _ i hci, List.map_append, List.map_cons, List.nodup_append] at hn
    exact (List.nodup_cons.1 hn.2.1).1 (List.mem_map.2 ⟨p, hp, e⟩)
  have hB1 := hB _ hpm
  have hpk : ((ldB q k1 k2 k3 k4).getD i default).1 = k1 ∨ ((ldB q k1 k2 k3 k4).getD i default).1 = k2 ∨ ((ldB q k1 k2 k3 k4).getD i default).1 = k3 ∨ ((ldB q k1 k2 k3 k4).getD i default).1 = k4 := by simp only [ldB, List.mem_cons, List.not_mem_nil, or_false] at hpm; rcases hpm with e | e | e | e <;> rw [show (ldB q k1 k2 k3 k4).getD i default = _ from e] <;> simp
  generalize (ldB q k1 k2 k3 k4).getD i default = p at *
  have e1 : IntKind.i64.wrap ((i : Int) + 1) = ((i + 1 : Nat) : Int) := w1 om
  have e2 : IntKind.i64.wrap (((p.2.length + 5 : Nat) : Int) - 5) = (p.2.length : Int) := by rw [w64 om om]; omega
  have e4 : p.2.length + 5 - p.2.length = 5 := om
  have g5 : (n = p.1) = False := oz
  have g6 : (kw = p.1) = False := oz
  have hpo1 := hpo
  unfold Xu at hpo1
  have hsm : ∀ (Hc : Heap), Hc p.1 = some (Xu p) → ∀ m, Ret prog 26 [.osl p.1 2 p.2.length 5, bys Wq] Hc m (.bool true) Hc m := fun Hc hc m => by
    exact kbC
  refine ak ?_
  apply hK2
  refine bk fun K3 hK3 => ?_
  refine rg zs [2, 5, 6, 7] ?_
  refine rk zs [2, 5, 6] fun K V => ?_
  refine cg func26 (fun _ => (hsm _ hpo _)) ?_
  apply V; clear V K
  refine rg zs [2, 5, 6, 8] ?_
  refine Zu ?_
  refine Zo (fun T' H' n' => ∃ (j : Nat) (els : List AV), j ≤ p.2.length + 5 ∧ els.length = p.2.length + 5 ∧ (∀ x ∈ els, x.sz = 1) ∧ T' = tl [(2, .loc n 0 0 0 []), (5, .bool true), (6, .int .i64 i), (8, .int .i64 j)] ∧ H' n = some (.arr 0 12 [Xq q k1 k2 k3 k4 kw kf vf]) ∧ H' kw = some (.arr 0 1 ((ldB q k1 k2 k3 k4).map YK)) ∧ H' kf = some (.arr vf 1 ((q.fams ++ [-77]).map fun x : Int => (.int .i64 x : AV))) ∧ H' p.1 = some (.arr 2 1 els) ∧ (∀ p ∈ (ldB q k1 k2 k3 k4).drop (i + 1), H' p.1 = some (Xu p)) ∧ (∀ k, k < n → k ≠ k1 → k ≠ k2 → k ≠ k3 → k ≠ k4 → k ≠ kf → H' k = H k) ∧ n' = n + 2) (fun T' _ _ => p.2.length + 5 - iv (T' 8)) ?_ ?_
  ·exact ⟨0, (p.2 ++ Wq).map Zd, om, by simp [Wq], (fun x hx => by obtain ⟨y, _, rfl⟩ := List.mem_map.1 hx; rfl), rfl, b1, b2, b3, hpo, fun p hp => hdr p (mem_drop hci p hp), hlow, rfl⟩
  rintro T1 H1 n1 ⟨j, els, hj, hel, hez, rfl, b1, b2, b3, b4, hdr2, hlow2, rfl⟩
  unfold Xq Jj qaX at b1
  refine Zb fun K4 hK4 => ?_
  refine rg zs [2, 5, 6, 8, 57] ?_
  refine Za ?_ ?_ <;> intro hb
  ·have hcj : j < p.2.length + 5 := ott
   have e3 : IntKind.i64.wrap ((j : Int) + 1) = ((j + 1 : Nat) : Int) := w1 om
   have g7 : (n = p.1) = False := g5
   refine ak ?_
   apply hK4
   refine bk fun K5 hK5 => ?_
   refine rg1 zs [2, 5, 6, 8] ?_
   apply hK5
   refine rg1 zs [2, 5, 6, 8] ?_
   refine ⟨⟨j + 1, els.set j (.int .u8 99), om, by rw [List.length_set]; exact hel, fun x hx => ?_, rfl, ?_⟩, om⟩
   ·rcases List.mem_or_eq_of_mem_set hx with h9 | h9; exact hez x h9; rw [h9]; rfl
   ·(repeat' apply And.intro) <;> first | rfl | ((try simp only [N9]); (repeat first | rw [if_pos rfl] | rw [if_pos trivial] | rw [if_neg om]); first | done | exact b1 | exact b2 | exact b3 | exact b4) | (intro p2 hp2; have := hne p2 hp2; refine ohx ?_; exact hdr2 p2 hp2) | (intro k a1 a2 a3 a4 a5 a6; refine ohx ?_; exact hlow2 k a1 a2 a3 a4 a5 a6) | omega
  refine ax ?_
  apply hK3
  refine rg1 zs [2, 5, 6] ?_
  refine ⟨⟨i + 1, om, rfl, ?_⟩, om⟩
  (repeat' apply And.intro) <;> first | rfl | exact b1 | exact b2 | exact b3 | exact hdr2 | exact hlow2
 have hci : i = 4 := otf
 refine ax ?_
 apply hK1
 refine Zb fun K6 hK6 => ?_
 refine rg zs [2, 5, 9] ?_
 refine Zu ?_
 refine Zo (fun T' H' n' => ∃ (j : Nat) (els : List AV), j ≤ q.fams.length + 1 ∧ els.length = q.fams.length + 1 ∧ (∀ x ∈ els, x.sz = 1) ∧ T' = tl [(2, .loc n 0 0 0 []), (5, .bool true), (9, .int .i64 j)] ∧ H' n = some (.arr 0 12 [Xq q k1 k2 k3 k4 kw kf vf]) ∧ H' kf = some (.arr vf 1 els) ∧ (∀ k, k < n → k ≠ k1 → k ≠ k2 → k ≠ k3 → k ≠ k4 → k ≠ kf → H' k = H k) ∧ n' = n + 2) (fun T' _ _ => q.fams.length + 1 - iv (T' 9)) ?_ ?_
 ·exact ⟨0, _, om, osi, (fun x hx => by obtain ⟨y, _, rfl⟩ := List.mem_map.1 hx; rfl), rfl, b1, b3, hlow, rfl⟩
 rintro T1 H1 n1 ⟨j, els, hj, hel, hez, rfl, b1, b3, hlow, rfl⟩
 unfold Xq Jj qaX at b1
 refine Zb fun K7 hK7 => ?_
 refine rg zs [2, 5, 9, 71] ?_
 refine Za ?_ ?_ <;> intro hb
 ·have hcj : j < q.fams.length + 1 := ott
  have e3 : IntKind.i64.wrap ((j : Int) + 1) = ((j + 1 : Nat) : Int) := w1 om
  refine ak ?_
  apply hK7
  refine bk fun K8 hK8 => ?_
  refine rg1 zs [2, 5, 9] ?_
  apply hK8
  refine rg1 zs [2, 5, 9] ?_
  refine ⟨⟨j + 1, els.set j (.int .i64 (-99)), om, by rw [List.length_set]; exact hel, fun x hx => ?_, rfl, ?_⟩, om⟩
  ·rcases List.mem_or_eq_of_mem_set hx with h9 | h9; exact hez x h9; rw [h9]; rfl
  ·(repeat' apply And.intro) <;> first | rfl | ((try simp only [N9]); (repeat first | rw [if_pos rfl] | rw [if_pos trivial] | rw [if_neg om]); first | done | exact b1 | exact b3) | (intro k a1 a2 a3 a4 a5 a6; refine ohx ?_; exact hlow k a1 a2 a3 a4 a5 a6) | omega
 refine ax ?_
 apply hK6
 refine rg zs [4] ?_
 refine ar ?_
 exact ⟨om, hlow, rfl⟩
theorem srcs_frz {rows : List RowE} {err : Int} {ks kw kt lo m vw vt : Nat} {kb : List (Nat × List UInt8)} {tels : List AV} {tk : List Nat} {H : Heap} {n : Nat} (h : SrcS rows err ks kw kt lo m vw vt kb tels tk H n) {i : Nat} (hi : i < tels.length) : i < rows.length ∧ Frz H 0 (.osl kt vt i 1) (.sl 2 ([rows.getD i default].map Zm)) := by
 have hl := h.told.own.len
 rw [List.length_map, List.length_take] at hl
 have hir : i < rows.length := om
 refine ⟨hir, .osl h.ht (Nat.zero_le _) om ?_⟩
 obtain ⟨_, k2, _, _, _, ho, _⟩ := h.told.own.nth hi
 have e1 : (tels.drop i).take 1 = [nth tels i] := by rw [List.drop_eq_getElem_cons hi, List.take_succ_cons, List.take_zero]; simp [nth, List.getD, List.getElem?_eq_getElem hi]
 have e2 : nth ((rows.take m).map Zm) i = Zm (rows.getD i default) := by
   rw [Zt Zm (rows.take m) i (by rw [List.length_take]; omega)]
   congr 1
   simp [List.getD, List.getElem?_take, show i < m by omega]
 rw [e1]
 rw [e2] at ho
 exact .cons (ho.frz fun _ _ => Nat.zero_le _) .nil
theorem NE30.eqs {P Q : Prop} (g : Imp P Q := by (try simp only [go_sem, seval, hO, hW, hT, hrs, e1, e2, e3, e4, e5, g5, g6, hnth, hpo1, b1, b2, b4, YK, Nat.add_assoc, List.length_map, List.length_append, List.length_cons, List.length_nil, Int.toNat_natCast, Option.getD_some, Option.getD_none, Nat.zero_add]); exact Pb) : Imp P Q := g
theorem NE30.sd {P : Prop} (g : P := by first | (intro _; exact ⟨om, om, by simp [Wq]; omega, fun m h => h.elim⟩) | exact ⟨om, hez _ (nth_mem2 om)⟩ | fail) : P := g
set_option maxRecDepth 100000 in
set_option maxHeartbeats 6400000 in
open NE30 NZ in
theorem Jc (rows : List RowE) (err : Int) (hrw : Xn rows) (ks kw kt lo m vw vt : Nat) (kb : List (Nat × List UInt8)) (tels : List AV) (tk : List Nat) (H : Heap) (n : Nat) (h : SrcS rows err ks kw kt lo m vw vt kb tels tk H n) (hkl : kb.length ≤ 4398046511104) :
   Zl prog 74 [.loc ks 0 0 0 []] H n (fun res H' n' => res = .val (.bool true) ∧ n' = n ∧ ∀ k, (∀ p ∈ kb, k ≠ p.1) → H' k = H k) := by
 obtain ⟨hrl, hrb⟩ := hrw
 have hO := h.ho
 unfold XQ at hO
 obtain ⟨d1, d2, d3, d4, d5, d6, d7⟩ := h.d
 have hW := h.hw
 have hT := h.ht
 have htl : tels.length ≤ 1048576 := by have := h.told.own.len; rw [List.length_map, List.length_take] at this; omega
 have hkr : ∀ p ∈ kb, lo ≤ p.1 ∧ p.1 < n := fun p hp => h.told.lo _ (h.wk p hp)
 have hrs : ∀ r, (Zm r).sz = 2 := Ve
 have e1 := d7
 have e2 := d7
 have e3 := d7
 have e4 := d7
 have e5 := d7
 have g5 := d7
 have g6 := d7
 have hnth := d7
 have hpo1 := d7
 have b1 := d7
 have b2 := d7
 have b4 := d7
 refine fw func74 ntmps74 results74 ?_
 refine rg zs [0] ?_
 refine rg zs [0, 3] ?_
 refine Zb fun K1 hK1 => ?_
 refine rg zs [0, 3, 4] ?_
 refine Zu ?_
 refine Zo (fun T' H' n' => ∃ i : Nat, i ≤ tels.length ∧ T' = tl [(0, .loc ks 0 0 0 []), (3, .bool true), (4, .int .i64 i)] ∧ H = H' ∧ n = n') (fun T' _ _ => tels.length - iv (T' 4)) ?_ ?_
 ·exact ⟨0, Nat.zero_le _, rfl, rfl, rfl⟩
 rintro T1 H1 n1 ⟨i, hi, rfl, rfl, rfl⟩
 refine Zb fun K2 hK2 => ?_
 refine rg zs [0, 3, 4, 14] ?_
 refine Za ?_ ?_ <;> intro hb
 ·have hci : i < tels.length := ott
  obtain ⟨hir, hfz⟩ := srcs_frz h hci
  have e1 : IntKind.i64.wrap ((i : Int) + 1) = ((i + 1 : Nat) : Int) := w1 om
  have e2 : i + 1 - i = 1 := om
  have e5 : List.drop i (List.take (i + 1) (rows.map Zm)) = [rows.getD i default].map Zm := by rw [← List.map_take, ← List.map_drop, Vz rows hir, List.drop_append_of_le_length (by rw [List.length_take]; omega), List.drop_of_length_le (by rw [List.length_take]; omega)]; rfl
  have hrc := (hrb _ (Yy rows hir)).2.1
  generalize rows.getD i default = r at *
  have hsr : ∀ m, Ret prog 43 [.osl kt vt i 1, .sl 2 ([r].map Zm)] H m (.bool true) H m := fun m => by
    have := UJ [r] [r] osi osi (fun x hx => by rw [List.mem_singleton.1 hx]; exact hrc) (fun x hx => by rw [List.mem_singleton.1 hx]; exact hrc) (fun _ => none) 0
    rw [decide_eq_true rfl] at this
    exact Ret.lend trivial (.cons hfz (.cons (.kl (XG Zm (fun r => kl_row r _) _)) .nil)) this
  refine ak ?_
  apply hK2
  refine bk fun K3 hK3 => ?_
  refine dx1 zs [0, 3, 4] [.m, .m, .m, .q, .q, .q, .m, .m, .q, .q, .m, .q, .q, .q, .m, .m, .q, .q, .c, .q, .q] [0, 1, 2, 3, 4, 5, 6, 7, 8, 9, 10, 11, 12, 13, 14, 15, 16, 17, 18, 19, 20] [0, 1, 2, 3, 4, 5, 6, 7, 8, 9, 10, 11, 12, 13, 14, 15, 16, 17, 18, 19, 20] fun K V => ?_
  refine cq func43 (fun _ n => (hsr n)) ?_
  apply V; clear V K
  refine ns ?_
  apply hK3
  refine rg1 zs [0, 3, 4] ?_
  exact ⟨⟨i + 1, om, rfl⟩, om⟩
 refine ax ?_
 apply hK1
 refine Zb fun K4 hK4 => ?_
 refine rg zs [0, 3, 5] ?_
 refine Zu ?_
 refine Zo (fun T' H' n' => ∃ i : Nat, i ≤ kb.length ∧ T' = tl [(0, .loc ks 0 0 0 []), (3, .bool true), (5, .int .i64 i)] ∧ H' ks = some (.arr 0 5 [XQ rows err m kw vw kb.length kt vt tels.length]) ∧ H' kw = some (.arr vw 1 (kb.map YK)) ∧ (∀ p ∈ kb.drop i, H' p.1 = some (Xu p)) ∧ (∀ k, (∀ p ∈ kb, k ≠ p.1) → H' k = H k) ∧ n = n') (fun T' _ _ => kb.length - iv (T' 5)) ?_ ?_
 ·exact ⟨0, Nat.zero_le _, rfl, h.ho, h.hw, fun p hp => h.wb p hp, fun _ _ => rfl, rfl⟩
 rintro T1 H1 n1 ⟨i, hi, rfl, b1, b2, hdr, hlow, rfl⟩
 unfold XQ at b1
 refine Zb fun K5 hK5 => ?_
 refine rg zs [0, 3, 5, 43] ?_
 refine Za ?_ ?_ <;> intro hb
 ·have hci : i < kb.length := ott
  have hnth : nth (kb.map YK) i = YK (kb.getD i default) := Zt YK _ i hci
  have hpm := Yy kb hci
  have hpd : kb.getD i default ∈ kb.drop i := by rw [YM _ i hci]; simp
  have hpo := hdr _ hpd
  have hne : ∀ p ∈ kb.drop (i + 1), p.1 ≠ (kb.getD i default).1 := fun p hp e => by
    have hn := h.wd
    rw [← List.take_append_drop i kb, YM _ i hci, List.map_append, List.map_cons, List.nodup_append] at hn
    exact (List.nodup_cons.1 hn.2.1).1 (List.mem_map.2 ⟨p, hp, e⟩)
  have hB1 := hkr _ hpm
  have hB2 := h.wl _ hpm
  generalize kb.getD i default = p at *
  have e1 : IntKind.i64.wrap ((i : Int) + 1) = ((i + 1 : Nat) : Int) := w1 om
  have e2 : IntKind.i64.wrap (((p.2.length + 5 : Nat) : Int) - 5) = (p.2.length : Int) := by rw [w64 om om]; omega
  have e4 : p.2.length + 5 - p.2.length = 5 := om
  have g5 : (ks = p.1) = False := oz
  have g6 : (kw = p.1) = False := oz
  have hpo1 := hpo
  unfold Xu at hpo1
  have hsm : ∀ (Hc : Heap), Hc p.1 = some (Xu p) → ∀ m, Ret prog 26 [.osl p.1 2 p.2.length 5, bys Wq] Hc m (.bool true) Hc m := fun Hc hc m => by
    exact kbC
  refine ak ?_
  apply hK5
  refine bk fun K6 hK6 => ?_
  refine rg zs [0, 3, 5, 6] ?_
  refine rk zs [0, 3, 5] fun K V => ?_
  refine cg func26 (fun _ => (hsm _ hpo _)) ?_
  apply V; clear V K
  refine rg zs [0, 3, 5, 7] ?_
  refine Zu ?_
  refine Zo (fun T' H' n' => ∃ (j : Nat) (els : List AV), j ≤ p.2.length + 5 ∧ els.length = p.2.length + 5 ∧ (∀ x ∈ els, x.sz = 1) ∧ T' = tl [(0, .loc ks 0 0 0 []), (3, .bool true), (5, .int .i64 i), (7, .int .i64 j)] ∧ H' ks = some (.arr 0 5 [XQ rows err m kw vw kb.length kt vt tels.length]) ∧ H' kw = some (.arr vw 1 (kb.map YK)) ∧ H' p.1 = some (.arr 2 1 els) ∧ (∀ p ∈ kb.drop (i + 1), H' p.1 = some (Xu p)) ∧ (∀ k, (∀ p ∈ kb, k ≠ p.1) → H' k = H k) ∧ n = n') (fun T' _ _ => p.2.length + 5 - iv (T' 7)) ?_ ?_
  ·exact ⟨0, (p.2 ++ Wq).map Zd, om, by simp [Wq], (fun x hx => by obtain ⟨y, _, rfl⟩ := List.mem_map.1 hx; rfl), rfl, b1, b2, hpo, fun p hp => hdr p (mem_drop hci p hp), hlow, rfl⟩
  rintro T1 H1 n1 ⟨j, els, hj, hel, hez, rfl, b1, b2, b4, hdr2, hlow2, rfl⟩
  unfold XQ at b1
  refine Zb fun K7 hK7 => ?_
  refine rg zs [0, 3, 5, 7, 78] ?_
  refine Za ?_ ?_ <;> intro hb
  ·have hcj : j < p.2.length + 5 := ott
   have e3 : IntKind.i64.wrap ((j : Int) + 1) = ((j + 1 : Nat) : Int) := w1 om
   refine ak ?_
   apply hK7
   refine bk fun K8 hK8 => ?_
   refine rg1 zs [0, 3, 5, 7] ?_
   apply hK8
   refine rg1 zs [0, 3, 5, 7] ?_
   refine ⟨⟨j + 1, els.set j (.int .u8 88), om, by rw [List.length_set]; exact hel, fun x hx => ?_, rfl, ?_⟩, om⟩
   ·rcases List.mem_or_eq_of_mem_set hx with h9 | h9; exact hez x h9; rw [h9]; rfl
   ·(repeat' apply And.intro) <;> first | rfl | ((try simp only [N9]); (repeat first | rw [if_pos rfl] | rw [if_pos trivial] | rw [if_neg om]); first | done | exact b1 | exact b2 | exact b4) | (intro p2 hp2; have := hne p2 hp2; refine ohx ?_; exact hdr2 p2 hp2) | (intro k hk; have := hk p hpm; refine ohx ?_; exact hlow2 k hk) | omega
  refine ax ?_
  apply hK6
  refine rg1 zs [0, 3, 5] ?_
  refine ⟨⟨i + 1, om, rfl, ?_⟩, om⟩
  (repeat' apply And.intro) <;> first | rfl | exact b1 | exact b2 | exact hdr2 | exact hlow2
 refine ax ?_
 apply hK4
 refine rg zs [2] ?_
 refine ar ?_
 exact hlow
theorem chosenE_len (q : QryE) (t : Option Tst) (l : List CelE) : (ZC q t l).length ≤ l.length := List.length_filter_le _ _
theorem Jv {nf : Nat} {q : QryE} {t : Option Tst} {tk : List UInt8 → List UInt8} {start : List UInt8} {has : Bool} {err : Int} : ∀ (l : List RowE) (m : Nat) (last : Option (List UInt8)) (acc : List RowE), (∀ x ∈ l, x.cells.length ≤ 1048576) → (∀ x ∈ acc, x.cells.length ≤ 1048576) → acc.length ≤ m →
   (runG nf q t tk start has err m last acc l).2.1 ≤ m + l.length + 1 ∧ (runG nf q t tk start has err m last acc l).1.rows.length ≤ m + l.length ∧ ∀ x ∈ (runG nf q t tk start has err m last acc l).1.rows, x.cells.length ≤ 1048576
 | [], m, last, acc, hl, ha, hm => by
   unfold runG
   split
   ·exact ⟨osi, by simp [pgZ], fun x hx => by simp [pgZ] at hx⟩
   ·exact ⟨osi, by simpa using hm, ha⟩
 | y :: l, m, last, acc, hl, ha, hm => by
   have hc := chosenE_len q t y.cells
   have hy := hl y osi
   have hl2 : ∀ x ∈ l, x.cells.length ≤ 1048576 := fun x hx => hl x (by simp [hx])
   have ha2 : ∀ x ∈ acc ++ [(⟨y.row, ZC q t y.cells⟩ : RowE)], x.cells.length ≤ 1048576 := fun x hx => by
     rcases List.mem_append.1 hx with h | h
     ·exact ha x h
     ·rw [List.mem_singleton.1 h]; simp only; omega
   have r1 := Jv (nf := nf) (q := q) (t := t) (tk := tk) (start := start) (has := has) (err := err) l (m + 1) (some y.row) acc hl2 ha om
   have r2 := Jv (nf := nf) (q := q) (t := t) (tk := tk) (start := start) (has := has) (err := err) l (m + 1) (some y.row) (acc ++ [⟨y.row, ZC q t y.cells⟩]) hl2 ha2 (by simp <;> omega)
   unfold runG
   simp only [List.length_cons]
   split
   ·exact ⟨by simp <;> omega, by simp [pgZ], fun x hx => by simp [pgZ] at hx⟩
   split
   ·exact ⟨by simp <;> omega, by simp [pgZ], fun x hx => by simp [pgZ] at hx⟩
   split
   ·exact ⟨by simp <;> omega, by simp <;> omega, ha⟩
   split
   ·exact ⟨om, om, r1.2.2⟩
   split
   ·exact ⟨by simp <;> omega, by simp <;> omega, ha2⟩
   ·exact ⟨om, om, r2.2.2⟩
theorem runE_small {fs : List Fml} {q : QryE} {clock : Int} {rows : List RowE} {err : Int} (hr : Xn rows) :
   (runE fs q clock (some (rows, err))).2.1 ≤ 1048577 ∧ (runE fs q clock (some (rows, err))).1.rows.length ≤ 1048576 ∧ ∀ x ∈ (runE fs q clock (some (rows, err))).1.rows, x.cells.length ≤ 1048576 := by
 unfold runE
 split
 ·exact ⟨osi, by simp [pgZ], fun x hx => by simp [pgZ] at hx⟩
 split
 ·exact ⟨osi, by simp [pgZ], fun x hx => by simp [pgZ] at hx⟩
 ·have := Jv (nf := fs.length) (q := q) (t := Yi fs q) (tk := tokB q (atE q clock).1) (start := (ZV q).1) (has := (ZV q).2.1) (err := err) rows 0 none [] (fun x hx => (hr.2 x hx).2.1) (fun x hx => by cases hx) osi
  have h1 := hr.1
  exact ⟨by simp only; omega, by simp only; omega, this.2.2⟩
theorem kl_pg (p : PgE) (n : Nat) : (pgAV p).kl n := ⟨XG Zm (fun x => kl_rowAV x n) _, Xd _ _, trivial, trivial⟩
theorem NE40.eqs {P Q : Prop} (g : Imp P Q := by (try simp only [go_sem, seval, hszs, hags, hmos, hszq, hagq, hmoq, hszp, hagp, hmop, f1, f2, f3, b1, b2, b3, b4, b5, b6, d1, d2, d3, d5, e1, e2, e3, e4, Nat.add_assoc, List.length_map, Int.toNat_natCast, Option.getD_some, Option.getD_none]); exact Pb) : Imp P Q := g
set_option maxRecDepth 100000 in
set_option maxHeartbeats 6400000 in
open NE40 NY in
theorem LM (fs : List Fml) (hfs : fs.length ≤ 1048576) (q : QryE) (hq : q.fine) (clock : Int) (rows : List RowE) (hrw : Xn rows) (err : Int) (H : Heap) (n : Nat) (hG : GOK 1 1 H n) :
   Ret prog 41 [Zf fs, Ze q, .int .i64 clock, .sl 2 (rows.map Zm), .int .i64 err] H n (.tup [pgAV (runE fs q clock (some (rows, err))).1, .int .i64 (runE fs q clock (some (rows, err))).2.2, .bool true]) H n := by
 obtain ⟨s1, s2, s3⟩ := runE_small (fs := fs) (q := q) (clock := clock) (err := err) hrw
 have hgoes := goesE_run fs q clock rows err
 have hz : ∃ z, z = runE fs q clock (some (rows, err)) := ⟨_, rfl⟩
 obtain ⟨z, hz⟩ := hz
 rw [← hz] at s1 s2 s3 ⊢
 have hszs : (Zf fs).sz = 1 := rfl
 have hags : (Zf fs).isAgg = true := rfl
 have hmos : (Zf fs).memOK = true := rfl
 have hszq : (Ze q).sz = 10 := ZG q
 have hagq : (Ze q).isAgg = true := rfl
 have hmoq : (Ze q).memOK = true := rfl
 have hszp : (pgAV z.1).sz = 3 := rfl
 have hagp : (pgAV z.1).isAgg = true := rfl
 have hmop : (pgAV z.1).memOK = true := rfl
 have hgo : ∀ (Hc : Heap) (m : Nat), Ret prog 57 [Zf fs, Ze q, .int .i64 clock, .sl 2 (rows.map Zm), .int .i64 err] Hc m (.tup [pgAV z.1, .int .i64 z.2.1, .int .i64 z.2.2]) Hc m := fun Hc m => by
   have := c_ref13_Goes fs hfs q hq clock rows hrw err Hc m
   rw [hgoes, ← hz] at this
   exact this
 have hsp : ∀ (Hc : Heap) (m : Nat), Ret prog 21 [pgAV z.1, pgAV z.1] Hc m (.bool true) Hc m := fun Hc m => by
   have := Lh z.1 z.1 s2 s2 s3 s3 Hc m
   rw [decide_eq_true rfl] at this
   exact this
 have f1 : (n = n + 1) = False := osi
 have f2 : (n = n + 2) = False := osi
 have f3 : (n + 1 = n + 2) = False := osi
 have b1 := hszs
 have b2 := hszs
 have b3 := hszs
 have b4 := hszs
 have b5 := hszs
 have b6 := hszs
 have d1 := hszs
 have d2 := hszs
 have d3 := hszs
 have d5 := hszs
 have e1 := hszs
 have e2 := hszs
 have e3 := hszs
 have e4 := hszs
 refine Ret.fin ?_
 refine fw func41 ntmps41 results41 ?_
 refine rg zs [2, 3, 4, 5, 6, 10] ?_
 refine rk zs [2, 3, 4, 5, 6, 10, 13] fun K V => ?_
 refine cK func33 (x_law13_laid q hq _ _) ?_ ?_
 ·intro p H' n' hc; obtain ⟨_, _, k1, k2, k3, k4, kw, kf, vf, hr, _⟩ := hc; cases hr
 intro rr H1 n1 hc
 obtain ⟨hn1, hlo1, k1, k2, k3, k4, kw, kf, vf, hr, hL, hLk⟩ := hc
 cases hr
 have b1 : (Xq q k1 k2 k3 k4 kw kf vf).sz = 12 := rfl
 have b2 : (Xq q k1 k2 k3 k4 kw kf vf).memOK = true := rfl
 have b3 : (Xq q k1 k2 k3 k4 kw kf vf).isAgg = true := rfl
 refine nz ?_
 apply V; clear V K
 refine rg zs [2, 3, 4, 5, 6, 10, 13, 14] ?_
 refine Z5 (n1 + 1) 1 (ver := 0) (e := 5) (els := [.agg [.sl 2 (rows.map Zm), .int .i64 err, .int .i64 0, .nilsl, .nilsl]]) (els' := [.agg [.sl 2 (rows.map Zm), .int .i64 err, .int .i64 0, .osl (n1 + 2) 0 0 0, .nilsl]]) oh ⟨Adp.agg ⟨.refl _ _, .refl _ _, .refl _ _, Adp.nilsl _, .refl _ _, trivial⟩, trivial⟩ ?_
 refine Z5 (n1 + 1) 2 (ver := 0) (e := 5) (els := [.agg [.sl 2 (rows.map Zm), .int .i64 err, .int .i64 0, .osl (n1 + 2) 0 0 0, .nilsl]]) (els' := [XQ rows err 0 (n1 + 2) 0 0 (n1 + 3) 0 0]) oh ⟨Adp.agg ⟨.refl _ _, .refl _ _, .refl _ _, .refl _ _, Adp.nilsl _, trivial⟩, trivial⟩ ?_
 refine ZM (fun H' n' => SrcS rows err (n1 + 1) (n1 + 2) (n1 + 3) (n1 + 4) 0 0 0 [] [] [] H' n' ∧ H' n1 = some (.arr 0 12 [Xq q k1 k2 k3 k4 kw kf vf]) ∧ (∀ k, k < n1 → H' k = H1 k) ∧ n' = n1 + 4) ?_ fun H3 n3 ⟨hS, b5, hlo3, hn3⟩ => ?_
 ·exact ⟨⟨ohr, ohr, fun p hp => (by cases hp), fun p hp => (by cases hp), osi, oh, Pile.nil _ _ _, om, fun p hp => (by cases hp)⟩, oh, fun k hk => oh, rfl⟩
 subst hn3
 have hlow3 : ∀ k, k < n + 3 → H3 k = ((H.put n (some (.arr 0 1 [Zf fs]))).put (n + 1) (some (.arr 0 10 [Ze q]))).put (n + 2) (some (.arr 0 3 [.agg [.nilsl, .nilsl, .bool false]])) k := fun k hk => (hlo3 k om).trans (hlo1 k hk)
 have c1 : H3 n = some (.arr 0 1 [Zf fs]) := (hlow3 n om).trans oh
 have c2 : H3 (n + 1) = some (.arr 0 10 [Ze q]) := (hlow3 (n + 1) om).trans oh
 have c3 : H3 (n + 2) = some (.arr 0 3 [.agg [.nilsl, .nilsl, .bool false]]) := (hlow3 (n + 2) om).trans oh
 have c0 : ∀ k, k < n → H3 k = H k := fun k hk => (hlow3 k om).trans oh
 have hL3 : LdS q k1 k2 k3 k4 kw kf vf H3 := hL.on fun k hk => hlo3 k (hLk k hk).2
 have hG3 : GOK 1 1 H3 (n1 + 4) := hG.at2 (c0 _ hG.gek) (c0 _ hG.get) om
 refine Zg zs [2, 3, 4, 5, 6, 10, 13, 14, 15, 16] fun K V => ?_
 try simp only [go_sem, seval, hszs, hags, hmos, hszq, hagq, hmoq, hszp, hagp, hmop, f1, f2, f3, b1, b2, b3, b4, b5, b6, d1, d2, d3, d5, e1, e2, e3, e4, Nat.add_assoc, List.length_map, Int.toNat_natCast, Option.getD_some, Option.getD_none, Xq, Jj, c1, c2]
 repeat (first | (refine And.intro ?_ ?_; · first | exact ⟨rfl, rfl⟩) | refine peel ?_)
 refine cK func18 ((RunK.frz om (Ls fs hfs q hq clock rows err hrw (n1 + 1) (n1 + 2) (n1 + 3) (n1 + 4) 0 0 hG3 hL3.ql (fun j hj => by have := hLk j (by simp only [List.mem_cons, List.not_mem_nil, or_false] at hj; omega); omega) hS))) ?_ ?_
 ·intro p H' n' hc; obtain ⟨_, _, vw, vt, kb, tels, tk, hr, _⟩ := hc; cases hr
 intro rr H4 n4 hc
 rw [← hz] at hc
 obtain ⟨hn4, hlo4, vw, vt, kb, tels, tk, hr, hS4, hkb, htk⟩ := hc
 cases hr
 have b4 := hS4.ho
 have hk4 : ∀ k, k < n1 → H4 k = H3 k := fun k hk => hlo4 k om om om om
 have d1 : H4 n = some (.arr 0 1 [Zf fs]) := (hk4 _ om).trans c1
 have d2 : H4 (n + 1) = some (.arr 0 10 [Ze q]) := (hk4 _ om).trans c2
 have d3 : H4 (n + 2) = some (.arr 0 3 [.agg [.nilsl, .nilsl, .bool false]]) := (hk4 _ om).trans c3
 have e3 : (n = n4) = False := oz
 have e4 : (n + 1 = n4) = False := oz
 have d5 : H4 n1 = some (.arr 0 12 [Xq q k1 k2 k3 k4 kw kf vf]) := (hlo4 _ om om om om).trans b5
 try simp only [go_sem, seval, hszs, hags, hmos, hszq, hagq, hmoq, hszp, hagp, hmop, f1, f2, f3, b1, b2, b3, b4, b5, b6, d1, d2, d3, d5, e1, e2, e3, e4, Nat.add_assoc, List.length_map, Int.toNat_natCast, Option.getD_some, Option.getD_none, Xq, Jj, c1, c2]
 repeat refine peel ?_
 apply V; clear V K
 refine rc zs [6, 10, 13, 14, 15, 16, 17, 18, 19] func57 ((hgo _ _)) ?_
 refine ZM (fun H' n' => (∀ k, k < n4 → H' k = H4 k) ∧ H' n4 = some (.arr 0 3 [pgAV z.1]) ∧ H' (n4 + 1) = some (.arr 0 3 [pgAV z.1]) ∧ n' = n4 + 2) ⟨fun k hk => oh, oh, oh, by first | rfl | omega⟩ fun H5 n5 ⟨hlo5, e1, e2, hn5⟩ => ?_
 subst hn5
 replace d1 := (hlo5 n om).trans d1
 replace d2 := (hlo5 (n + 1) om).trans d2
 replace d3 := (hlo5 (n + 2) om).trans d3
 replace d5 := (hlo5 n1 om).trans d5
 have hL5 : LdS q k1 k2 k3 k4 kw kf vf H5 := hL3.on fun k hk => (hlo5 k (by have := hLk k hk; omega)).trans (hk4 k (by have := hLk k hk; omega))
 refine Zg zs [10, 14, 15, 16, 17, 18, 19, 20] fun K V => ?_
 try simp only [go_sem, seval, hszs, hags, hmos, hszq, hagq, hmoq, hszp, hagp, hmop, f1, f2, f3, b1, b2, b3, b4, b5, b6, d1, d2, d3, d5, e1, e2, e3, e4, Nat.add_assoc, List.length_map, Int.toNat_natCast, Option.getD_some, Option.getD_none, Xq, Jj]
 repeat (first | (refine And.intro ?_ ?_; · first | exact rfl) | refine peel ?_)
 refine cK func35 ((JM q hq k1 k2 k3 k4 kw kf vf H5 (n4 + 2) hL5 (fun k hk => by have := hLk k hk; omega))) ?_ ?_
 ·intro p H' n' hc; obtain ⟨_, _, hr⟩ := hc; cases hr
 intro rr H6 n6 hc
 obtain ⟨hn6, hlo6, hr⟩ := hc
 cases hr
 try simp only [go_sem, seval, hszs, hags, hmos, hszq, hagq, hmoq, hszp, hagp, hmop, f1, f2, f3, b1, b2, b3, b4, b5, b6, d1, d2, d3, d5, e1, e2, e3, e4, Nat.add_assoc, List.length_map, Int.toNat_natCast, Option.getD_some, Option.getD_none, Xq, Jj]
 repeat refine peel ?_
 apply V; clear V K
 have hS6 : SrcS rows err (n1 + 1) (n1 + 2) (n1 + 3) (n1 + 4) z.2.1 vw vt kb tels tk H6 n6 := hS4.on (fun k hk => by
   have hk9 : n1 ≤ k ∧ k < n4 := by rcases hk with rfl | rfl | rfl | hk; omega; omega; omega; exact ⟨by have := htk k hk; omega, hS4.told.lo k hk |>.2⟩
   have x1 := hLk k1 osi; have x2 := hLk k2 osi; have x3 := hLk k3 osi; have x4 := hLk k4 osi; have x5 := hLk kf osi
   exact (hlo6 k om om om om om om).trans (hlo5 k hk9.2)) om
 refine rk zs [10, 14, 15, 16, 17, 18, 19, 20, 21] fun K V => ?_
 refine cK func74 ((Jc rows err hrw (n1 + 1) (n1 + 2) (n1 + 3) (n1 + 4) z.2.1 vw vt kb tels tk H6 n6 hS6 om)) ?_ ?_
 ·intro p H' n' hc; obtain ⟨hr, _⟩ := hc; cases hr
 intro rr H7 n7 hc
 obtain ⟨hr, hn7, hlo7⟩ := hc
 cases hr
 subst hn7
 have hkb7 : ∀ k, k < n1 + 4 ∨ n4 ≤ k → ∀ p ∈ kb, k ≠ p.1 := fun k hk p hp e => by have h1 := hS4.wk p hp; have h2 := htk _ h1; have h3 := hS4.told.lo _ h1; omega
 have x1 := hLk k1 osi; have x2 := hLk k2 osi; have x3 := hLk k3 osi; have x4 := hLk k4 osi; have x5 := hLk kf osi
 have hk7 : ∀ k, k < n1 + 4 ∨ n4 ≤ k → k < n4 + 2 → k ≠ k1 → k ≠ k2 → k ≠ k3 → k ≠ k4 → k ≠ kf → H7 k = H5 k := fun k a b c1 c2 c3 c4 c5 => (hlo7 k (hkb7 k a)).trans (hlo6 k b c1 c2 c3 c4 c5)
 replace e1 : H7 n4 = some (.arr 0 3 [pgAV z.1]) := (hk7 _ om om om om om om om).trans e1
 replace e2 : H7 (n4 + 1) = some (.arr 0 3 [pgAV z.1]) := (hk7 _ om om om om om om om).trans e2
 replace d3 : H7 (n + 2) = some (.arr 0 3 [.agg [.nilsl, .nilsl, .bool false]]) := (hk7 _ om om om om om om om).trans d3
 have b6 : H7 (n1 + 1) = some (.arr 0 5 [XQ rows err z.2.1 (n1 + 2) vw kb.length (n1 + 3) vt tels.length]) := (hlo7 _ (hkb7 _ om)).trans hS6.ho
 unfold XQ at b6
 have hlow7 : ∀ k, k < n → H7 k = H k := fun k hk => (hk7 k om om om om om om om).trans ((hlo5 k om).trans ((hk4 k om).trans (c0 k hk)))
 refine nz ?_
 apply V; clear V K
 refine dx zs [10, 11, 12] [.q, .m, .c, .m, .m, .m, .q, .m, .m, .c, .m, .q, .q, .m, .m, .q, .q, .q, .m, .q, .q, .m, .q, .q, .c, .q, .w [25], .q, .q] [0, 1, 2, 3, 4, 5, 6, 7, 8, 9, 10, 11, 12, 13, 14, 15, 16, 17, 18, 19, 20, 21, 22, 23, 24, 25, 26, 27, 28] [0, 1, 2, 3, 4, 5, 6, 7, 8, 9, 10, 11, 12, 13, 14, 15, 16, 17, 18, 19, 20, 21, 22, 23, 24, 25, 26, 27, 28] fun K V => ?_
 refine cq func20 (fun _ n => (X9 _ _ _)) ?_
 refine cq func20 (fun _ n => (X9 _ _ _)) ?_
 refine cq func21 (fun _ n => (hsp _ _)) ?_
 apply V; clear V K
 refine ar ?_
 refine ⟨_, rfl, fun k hk => ohx (hlow7 k hk), Frz.eq osi ⟨kl_pg _ _, trivial, trivial, trivial⟩⟩
end Go.Proofs.YtkmkbndcekklmaaGreatDoor
namespace Go.Sx
open Go
theorem qs_nileq {P : Program} {ε : Operand → AV} {H : Heap} {t t' : TypeId} {x : Operand} {v : Value} (hx : ε x = .nili) (hc : ε (.const v) = .nili) (ht : Lu P t = true) : QS P (.binOp .eql t x (.const v) t') ε H (.bool true) :=
 .pure fun dst ty pos after guard c n w ρv hs hr => by
   have h1 := hr x (by simp [Op.operands])
   have h2 := hr (.const v) (by simp [Op.operands])
   rw [hx] at h1
   rw [hc] at h2
   simp only [Rel, List.cons.injEq, and_true] at h1 h2
   obtain ⟨ms, he⟩ := Mv ht
   refine ⟨.bool true, ?_, rfl⟩
   simp [execOp, h1, h2, eqGuard, binOp, Qn he]
theorem awp_reg_nil {P : Program} {N id : Nat} {l : List Oper} {y : Code} {T : Nat → AV} {H : Heap} {n : Nat} {Q : QK} (z : TypeId → AV) (live : List Nat) (i : Nat) {dst : Option Tmp} {t t' : TypeId} {x : Operand} {v : Value} {ty : TypeId} {pos : String} {after : Array Edge} {j : Nat} {bb : Bool} {tt : Tmp}
   (ho : l = l.take i ++ ⟨dst, .binOp .eql t x (.const v) t', ty, pos, after, some (j, bb)⟩ :: l.drop (i + 1)) (hd : dOK N dst) (hif : Lu P t = true) (hv : strip true (U8 v) = .nili) (htt : gtmp l.toArray j = some tt)
   (h : ∀ K : KT, (∀ T H n, awp P N y T H n Q → K T H n) →
     erun P z N l.toArray (l.take i) T H n (ZF (fun T1 H1 n1 => ∃ g, gval (T1 tt) bb = some g ∧ (g = true → strip true (evO T1 x) = .nili) ∧ erun P z N l.toArray (l.drop (i + 1)) (tput T1 dst (.opt g (.bool true))) H1 n1 (ZF (fun T' H' n' => K (tsel live T') H' n') Q)) Q)) :
   awp P N (.seq (.region id l.toArray false) y) T H n Q := by
 refine U6 ?_
 have key : lrun P N l.toArray l T H n (ZF (fun T' H' n' => awp P N y (tsel live T') H' n' Q) Q) := by
   have h1 := h (fun T H n => awp P N y T H n Q) (fun _ _ _ h => h)
   have : lrun P N l.toArray (l.take i ++ ⟨dst, .binOp .eql t x (.const v) t', ty, pos, after, some (j, bb)⟩ :: l.drop (i + 1)) T H n (ZF (fun T' H' n' => awp P N y (tsel live T') H' n' Q) Q) := by
     refine Yn ?_ ?_ _ _ _ _ h1
     ·intro T1 H1 n1 hA c w a hs hr hN ds hdf
      have hA := hA
      simp only [ZF] at hA
      obtain ⟨g, hg, hx, hk⟩ := hA
      have hwg : Region.wanted ⟨dst, .binOp .eql t x (.const v) t', ty, pos, after, some (j, bb)⟩ (yielded l.toArray a.tmps) = g := Q8 hr rfl htt hg
      cases g with
      | true =>
        exact Yq (o := ⟨dst, .binOp .eql t x (.const v) t', ty, pos, after, some (j, bb)⟩) (ε := fun o => strip true (evO T1 o)) (k := fun r' H' n' => r' = .bool true ∧ H' = H1 ∧ n' = n1) (kp := fun _ _ _ => False) hd
          (OpT.of_qs (qs_nileq (ε := fun o => strip true (evO T1 o)) (hx rfl) hv hif) ⟨rfl, rfl, rfl⟩) hs hr hN hdf hwg (fun x _ => VA rfl (Ws hr x)) (.opt true) (fun _ _ _ h => Q3 rfl h)
          (by rintro _ _ _ ⟨rfl, rfl, rfl⟩; exact ZW _ _ _ _ hk) (fun _ _ _ h => h.elim)
      | false => exact XF hd hs hr hN hdf hwg _ (ZW _ _ _ _ hk)
     ·intro p T H n h; exact h
   rw [← ho] at this
   exact this
 have hr : awp P N (.region id l.toArray false) T H n (ZF (fun T' H' n' => awp P N y (tsel live T') H' n' Q) Q) := fun c w a hs hr hN ds hd => wp_region_list (by simpa using key c w a hs hr hN ds hd)
 exact hr.mono fun e T' H' n' hq => by
   exact kcJ
theorem Zl.adoptO {P : Program} {f : FuncId} {args : List AV} {H : Heap} {n : Nat} {K : ARes → Heap → Nat → Prop} (k esz : Nat) {ver e : Nat} {els els' : List AV} (hk : H k = some (.arr ver e els)) (ha : AdpL n els els')
   (h : Zl P f args ((H.put n (some (.arr 0 esz []))).put k (some (.arr ver e els'))) (n + 1) K) : Zl P f args H n K := fun c w vs hs hr => by
 have hst := PQ hs esz
 have hkn : k ≠ n := fun e => by subst e; rw [(hs.fresh _ (Nat.le_refl _)).1] at hk; simp at hk
 have hst2 := Step.retell (els' := els') hst.sim (k := k) (by rw [N7 _ _ hkn]; exact hk) (fun ds hd => ha.relF Pd hd) ha.len.symm ha.szAll
 exact (h _ w vs (hst.trans hst2).sim (RelT.mono (hst.trans hst2).le _ _ hr)).mono fun e w' ⟨res, c', H', n', V, hst3, hm⟩ => ⟨res, c', H', n', V, (hst.trans hst2).trans hst3, hm⟩
end Go.Sx
set_option maxRecDepth 10000
namespace Go.Proofs.YtkmkbndcekklmaaGreatDoor
open Go Go.Sx Go.Rt Go.Proofs Tryz
def srcN (rows : List RowE) (err : Int) : AObj := .arr 0 5 [.agg [.sl 2 (rows.map Zm), .int .i64 err, .int .i64 0, .nilsl, .nilsl]]
def RunO (ks : Nat) (z : PgE × Nat × Int) (H : Heap) (n : Nat) (res : ARes) (H' : Heap) (n' : Nat) : Prop :=
 n ≤ n' ∧ (∀ k, k < n → k ≠ ks → H' k = H k) ∧ ∃ a pk, res = .val (.tup [a, .int .i64 z.2.2]) ∧ Own H' a (pgAV z.1) pk ∧ pk.Nodup ∧ (∀ k ∈ pk, n ≤ k ∧ k < n')
def RunP (ks : Nat) (z : PgE × Nat × Int) (H : Heap) (n : Nat) (res : ARes) (H' : Heap) (n' : Nat) : Prop :=
 n ≤ n' ∧ (∀ k, k < n → k ≠ ks → H' k = H k) ∧ res = .val (.tup [pgAV z.1, .int .i64 z.2.2])
theorem RunO.frz {ks : Nat} {z : PgE × Nat × Int} {H : Heap} {n : Nat} {P : Program} {f : FuncId} {args : List AV} (h : Zl P f args H n (RunO ks z H n)) : Zl P f args H n (RunP ks z H n) :=
 h.frzS fun res H1 n1 ⟨h1, h2, a, pk, hr, ho, hd, hp⟩ => by
   have e := Px (j := .i64) (y := z.2.2) ho
   exact ⟨_, _, fun k => k ∈ pk, inferInstance, hr, FzO.own e (fun k hk => hk), h1, fun k a b => (PH (S := fun k => k ∈ pk) (fun hm => by have := hp k hm; omega)).trans (h2 k a b), rfl⟩
theorem o_query_Run (fs : List Fml) (hfs : fs.length ≤ 1048576) (q : QryE) (hqf : q.fine) (clock : Int) (rows : List RowE) (err : Int) (hrw : Xn rows) (ks : Nat) {H : Heap} {n : Nat} (hG : GOK 1 1 H n) (hs : H ks = some (srcN rows err)) :
   Zl prog 18 [Zf fs, Ze q, .int .i64 clock, .iface 52 (.loc ks 0 0 0 [])] H n (RunO ks (runE fs q clock (some (rows, err))) H n) :=
 Zl.below hs fun hks => by
   refine Zl.adoptO ks 1 (ver := 0) (e := 5) (els := [.agg [.sl 2 (rows.map Zm), .int .i64 err, .int .i64 0, .nilsl, .nilsl]]) (els' := [.agg [.sl 2 (rows.map Zm), .int .i64 err, .int .i64 0, .osl n 0 0 0, .nilsl]]) hs ⟨Adp.agg ⟨.refl _ _, .refl _ _, .refl _ _, Adp.nilsl _, .refl _ _, trivial⟩, trivial⟩ ?_
   refine Zl.adoptO ks 2 (ver := 0) (e := 5) (els := [.agg [.sl 2 (rows.map Zm), .int .i64 err, .int .i64 0, .osl n 0 0 0, .nilsl]]) (els' := [XQ rows err 0 n 0 0 (n + 1) 0 0]) (N8 _ _ _) ⟨Adp.agg ⟨.refl _ _, .refl _ _, .refl _ _, .refl _ _, Adp.nilsl _, trivial⟩, trivial⟩ ?_
   obtain ⟨H2, hH2⟩ : ∃ x, x = (((((H.put n (some (.arr 0 1 []))).put ks (some (.arr 0 5 [.agg [.sl 2 (rows.map Zm), .int .i64 err, .int .i64 0, .osl n 0 0 0, .nilsl]]))).put (n + 1) (some (.arr 0 2 []))).put ks (some (.arr 0 5 [XQ rows err 0 n 0 0 (n + 1) 0 0]))) : Heap) := ⟨_, rfl⟩
   rw [← hH2]
   have g1 : H2 ks = some (.arr 0 5 [XQ rows err 0 n 0 0 (n + 1) 0 0]) := by rw [hH2]; (try simp only [N9]); (repeat first | rw [if_pos rfl] | rw [if_pos trivial] | rw [if_neg om])
   have g2 : H2 n = some (.arr 0 1 []) := by rw [hH2]; (try simp only [N9]); (repeat first | rw [if_pos rfl] | rw [if_pos trivial] | rw [if_neg om])
   have g3 : H2 (n + 1) = some (.arr 0 2 []) := by rw [hH2]; (try simp only [N9]); (repeat first | rw [if_pos rfl] | rw [if_pos trivial] | rw [if_neg om])
   have g4 : ∀ k, k < n → k ≠ ks → H2 k = H k := fun k a b => by rw [hH2]; (try simp only [N9]); (repeat first | rw [if_pos rfl] | rw [if_pos trivial] | rw [if_neg om])
   have hne : ∀ g o, H g = some (.glob o VI) → g ≠ ks := fun g o hg e => by rw [e, hs] at hg; cases hg
   have hne2 : ∀ g o, H g = some (.glob o JC) → g ≠ ks := fun g o hg e => by rw [e, hs] at hg; cases hg
   have hG2 : GOK 1 1 H2 (n + 1 + 1) := hG.at2 (by
     by_cases hn : (1 : Nat) = 1
     ·rw [hn]; exact g4 _ hG.get (hne _ _ hG.table)
     ·exact g4 _ hG.gek (hne2 _ _ (hG.kindsC hn))) (g4 _ hG.get (hne _ _ hG.table)) om
   have hS : SrcS rows err ks n (n + 1) (n + 2) 0 0 0 [] [] [] H2 (n + 1 + 1) := ⟨g1, g2, fun p hp => (by cases hp), fun p hp => (by cases hp), osi, g3, Pile.nil _ _ _, om, fun p hp => (by cases hp)⟩
   refine (Ls fs hfs q hqf clock rows err hrw ks n (n + 1) (n + 2) 0 0 hG2 (QL.ro q H2) (fun j hj => by cases hj) hS).mono ?_
   rintro res H3 n3 ⟨h1, h2, a, pk, vw, vt, kb, tels, tk, hr, ho, hd, hp, _⟩
   exact ⟨om, fun k a b => (h2 k om b om om).trans (g4 k a b), a, pk, hr, ho, hd, fun k hk => by have := hp k hk; omega⟩
theorem WX (fs : List Fml) (hfs : fs.length ≤ 1048576) (q : QryE) (hqf : q.fine) (clock : Int) (rows : List RowE) (err : Int) (hrw : Xn rows) (ks : Nat) {H : Heap} {n : Nat} (hG : GOK 1 1 H n) (hs : H ks = some (srcN rows err)) :
 Zl prog 18 [Zf fs, Ze q, .int .i64 clock, .iface 52 (.loc ks 0 0 0 [])] H n (RunP ks (runE fs q clock (some (rows, err))) H n) := RunO.frz (o_query_Run fs hfs q hqf clock rows err hrw ks hG hs)
theorem NE50.eqs {P Q : Prop} (g : Imp P Q := by (try simp only [go_sem, seval, hszs, hags, hmos, hszq, hagq, hmoq, f1, f2, f4, Nat.add_assoc, List.length_map, Int.toNat_natCast]); exact Pb) : Imp P Q := g
set_option maxRecDepth 100000 in
set_option maxHeartbeats 3200000 in
open NE50 NY in
theorem Md (fs : List Fml) (hfs : fs.length ≤ 1048576) (q : QryE) (hqf : q.fine) (clock : Int) {H : Heap} {n : Nat} (hG : GOK 1 1 H n) :
   Ret prog 18 [Zf fs, Ze q, .int .i64 clock, .nili] H n (.tup [pgAV pgZ, .int .i64 (runE fs q clock none).2.2]) H n := by
 have hszs : (Zf fs).sz = 1 := rfl
 have hags : (Zf fs).isAgg = true := rfl
 have hmos : (Zf fs).memOK = true := rfl
 have hszq : (Ze q).sz = 10 := ZG q
 have hagq : (Ze q).isAgg = true := rfl
 have hmoq : (Ze q).memOK = true := rfl
 have hGc : ∀ (Hc : Heap) (nc : Nat), (∀ k, k < n → Hc k = H k) → n ≤ nc → GOK 1 1 Hc nc := fun Hc nc hc hn => hG.at2 (hc _ hG.gek) (hc _ hG.get) hn
 obtain ⟨z, hz⟩ : ∃ z, z = runE fs q clock none := ⟨_, rfl⟩
 rw [← hz]
 unfold runE at hz
 have f1 : (n = n + 1) = False := osi
 have f2 : (n + 1 = n + 2) = False := osi
 have f4 : (n = n + 2) = False := osi
 refine Ret.fin ?_
 refine fw func18 ntmps18 results18 ?_
 refine rg zs [2, 3, 4, 5, 8] ?_
 refine Zb fun K1 hK1 => ?_
 refine rk zs [2, 3, 4, 5, 8, 10] fun K V => ?_
 refine ck func34 ((Jq fs hfs q hqf (hGc _ _ (fun k hk => oh) om))) ?_
 apply V; clear V K
 refine rg zs [2, 3, 4, 5, 8, 10, 30] ?_
 refine Za ?_ ?_ <;> intro hb
 ·have hc0 : qcE fs q ≠ 0 := osb
  rw [if_pos hc0] at hz
  refine rg zs [8, 9] ?_
  refine ar ?_
  rw [hz]; exact ⟨_, rfl, fun k hk => oh, .tup (.cons (.agg (.cons .nilsl (.cons .nilsl (.cons (.kl trivial) .nil)))) (.cons (.kl trivial) .nil))⟩
 have hc0 : ¬ qcE fs q ≠ 0 := osb
 rw [if_neg hc0] at hz
 refine ak ?_
 apply hK1
 refine rk zs [3, 4, 5, 8, 11, 12] fun K V => ?_
 refine ck func36 ((NM q hqf clock (hGc _ _ (fun k hk => oh) om))) ?_
 apply V; clear V K
 refine Zb fun K2 hK2 => ?_
 refine awp_reg_nil zs [3, 4, 5, 8, 11, 44] 4 rfl (by first | trivial | (show _ < _; decide)) (by kernel_rfl) rfl rfl fun K V => ?_
 refine nz ?_
 refine ⟨_, rfl, fun hg => by first | rfl | (simp [hg]; done) | simp_all, ?_⟩
 refine nz ?_
 apply V; clear V K
 refine Za ?_ ?_ <;> intro hb
 ·have hz : z = (pgZ, 0, 1) := by rw [hz]; split <;> rfl
  refine rg zs [8, 9] ?_
  refine ar ?_
  rw [hz]; exact ⟨_, rfl, fun k hk => oh, .tup (.cons (.agg (.cons .nilsl (.cons .nilsl (.cons (.kl trivial) .nil)))) (.cons (.kl trivial) .nil))⟩
 exact absurd hb osi
def twoF : List Fml := [⟨[97], 3, 0⟩, ⟨[98], 3, 0⟩]
def WL (i : Nat) : RowE := ⟨[114, UInt8.ofNat (49 + i)], [⟨0, [120], 5, [49]⟩, ⟨1, [121], 4, [50]⟩]⟩
def Yp : List RowE := [WL 0, WL 1, WL 2]
open N0 in
theorem QC (H : Heap) (n : Nat) : Ret prog 14 [] H n (Zf twoF) H n := by
 refine Ret.fin ?_
 refine fw func14 ntmps14 results14 ?_
 refine kcu ?_
 refine kcu ?_
 refine ar ?_
 exact ⟨_, rfl, fun k hk => oh, .kl (kl_sch twoF _)⟩
theorem plain_at {i : Nat} (h : i < 3) : Yp.getD i default = WL i := by rcases i with _ | _ | _ | i <;> first | rfl | omega
theorem plain_byte {i : Nat} (h : i < 3) : Zd (UInt8.ofNat (49 + i)) = .int .u8 ((49 + i : Nat) : Int) := by rcases i with _ | _ | _ | i <;> first | rfl | omega
theorem NE60.eqs {P Q : Prop} (g : Imp P Q := by (try simp only [go_sem, seval, e1, e2, e3, e4, g1, g2, g3, g4, g5, g6, hst, Nat.add_assoc]); exact Pb) : Imp P Q := g
theorem NE60.inz {P Q : Prop} (g : Imp P Q := by refine Imp.up eqs ?_; (repeat (first | (refine Imp.nd ?_ ?_; · first | exact ⟨rfl, fun x hx => by simp only [List.mem_cons, List.not_mem_nil, or_false] at hx; rcases hx with rfl | rfl <;> exact ⟨rfl, rfl⟩⟩ | exact ⟨1, rfl, rfl⟩) | refine Imp.pl ?_)); exact Pb) : Imp P Q := g
set_option maxHeartbeats 1600000 in
open NE60 in
theorem Uw (H : Heap) (n : Nat) : Ret prog 17 [] H n (.sl 2 (Yp.map Zm)) H n := by
 have e1 : n = n := rfl
 have e2 : n = n := rfl
 have e3 : n = n := rfl
 have e4 : n = n := rfl
 have g6 : n = n := rfl
 have hst : n = n := rfl
 have g1 : ∀ k : Nat, (k = k + 1) = False := fun k => by simp
 have g2 : ∀ k : Nat, (k = k + 2) = False := fun k => by simp
 have g3 : ∀ k : Nat, (k = k + 3) = False := fun k => by simp
 have g4 : ∀ k : Nat, (k = k + 4) = False := fun k => by simp
 have g5 : ∀ k : Nat, (k = k + 5) = False := fun k => by simp
 refine Ret.fin ?_
 refine fw func17 ntmps17 results17 ?_
 refine rg zs [] ?_
 refine rg zs [1] ?_
 refine Zb fun K1 hK1 => ?_
 refine Yv 1 2 rfl ?_
 refine rg zs [1, 2] ?_
 refine Zu ?_
 refine Zo (fun T' H' n' => ∃ i : Nat, i ≤ 3 ∧ T' = tl [(1, .osl n i 0 i), (2, .int .i64 i)] ∧ H' n = some (.arr i 2 ((Yp.take i).map Zm)) ∧ (∀ k, k < n → H' k = H k) ∧ n' = n + 1 + 6 * i) (fun T' _ _ => 3 - iv (T' 2)) ?_ ?_
 ·exact ⟨0, by omega, rfl, by (try simp only [N9]); (repeat first | rw [if_pos rfl] | rw [if_pos trivial] | rw [if_neg (by omega)]); rfl, fun k hk => by (try simp only [N9]); (repeat first | rw [if_pos rfl] | rw [if_pos trivial] | rw [if_neg (by omega)]), rfl⟩
 rintro T1 H1 n1 ⟨i, hi, rfl, b1, hlow, hn1⟩
 refine Zb fun K2 hK2 => ?_
 refine rg zs [1, 2, 5] ?_
 refine Za ?_ ?_ <;> intro hb
 ·have hci : i < 3 := by have := of_decide_eq_true hb; omega
  have e1 : IntKind.i64.wrap (49 + (i : Int)) = ((49 + i : Nat) : Int) := by rw [w64 (by omega) (by omega)]; omega
  have e2 : IntKind.u8.wrap ((49 + i : Nat) : Int) = ((49 + i : Nat) : Int) := by rcases i with _ | _ | _ | i <;> first | rfl | omega
  have e3 : IntKind.i64.wrap ((i : Int) + 1) = ((i + 1 : Nat) : Int) := w1 (by omega)
  have e4 : (n = n1) = False := by simp; omega
  refine ak ?_
  apply hK2
  refine bk fun K3 hK3 => ?_
  refine rg zs [1, 2, 3] ?_
  refine rg zo [1, 2, 3] ?_
  refine NP (n1 + 5) n1 (ver := 0) (e := 4) (els := (WL i).cells.map Zk) (vj := 0) (ej := 2) (lj := [.agg [.sl 1 [.int .u8 114, .int .u8 ((49 + i : Nat) : Int)], .osl (n1 + 5) 0 0 2]]) (lj' := [Zm (WL i)]) (by (try simp only [N9]); (repeat first | rw [if_pos rfl] | rw [if_pos trivial] | rw [if_neg (by omega)]); rfl) (by (try simp only [N9]); (repeat first | rw [if_pos rfl] | rw [if_pos trivial] | rw [if_neg (by omega)])) (by omega) ⟨FzV.agg ⟨?_, FzV.osl (off := 0) (len := 2) (by simp [WL]), trivial⟩, trivial⟩ ?_
  ·rw [← plain_byte hci]; exact .refl _
  have g6 : ∀ j : Nat, (n = n1 + j) = False := fun j => by simp; omega
  have hst : strip true (Zm (WL i)) = Zm (WL i) := rfl
  have hl : (List.map Zm (List.take i Yp)).length = i := by rw [List.length_map, List.length_take, show Yp.length = 3 from rfl]; omega
  have hrs := Ve (WL i)
  have hrm : (Zm (WL i)).memOK = true := rfl
  have hra : (Zm (WL i)).isAgg = true := rfl
  refine ZK zs [1, 2] fun K V => ?_
  try simp only [go_sem, seval, e1, e2, e3, e4, g1, g2, g3, g4, g5, g6, hst, Nat.add_assoc, hrs, hrm, hra, b1]
  repeat (first | (refine And.intro ?_ ?_; · first | exact ⟨by omega, .inr trivial, by omega, by omega⟩ | exact ⟨rfl, fun x hx => by rw [List.mem_singleton.1 hx]; exact ⟨hrs, hrm⟩⟩) | refine peel ?_)
  apply V; clear V K
  refine ns ?_
  apply hK3
  refine rg1 zs [1, 2] ?_
  refine ⟨⟨i + 1, by omega, rfl, ?_, fun k hk => by (try simp only [N9]); (repeat first | rw [if_pos rfl] | rw [if_pos trivial] | rw [if_neg (by omega)]); exact hlow k hk, by omega⟩, by omega⟩
  rw [Vz Yp (show i < Yp.length from hci), plain_at hci]
  (try simp only [N9]); (repeat first | rw [if_pos rfl] | rw [if_pos trivial] | rw [if_neg (by omega)])
  rw [List.take_of_length_le (by omega), List.map_append]; rfl
 have hci : i = 3 := by have := of_decide_eq_false hb; omega
 subst hci
 refine ax ?_
 apply hK1
 refine rg zs [0] ?_
 refine ar ?_
 exact ⟨_, rfl, hlow,   .osl b1 (by omega) (by simp [Yp]) (by rw [List.take_of_length_le (show Yp.length ≤ 3 from Nat.le_refl 3), List.drop_zero, List.take_of_length_le (show (Yp.map Zm).length ≤ 3 from Nat.le_refl 3)]; exact XI _ (XG Zm (fun x => kl_rowAV x n) _))⟩
theorem NE61.eqs {P Q : Prop} (g : Imp P Q := by (try simp only [go_sem, seval, List.length_map]); exact Pb) : Imp P Q := g
open NE61 NY in
theorem Vx (b : List UInt8) (hb : b.length ≤ 1099511627776) (H : Heap) (n : Nat) : Ret prog 23 [bys b] H n (bys b) H n := by
 have h9 := Uk b hb 0 b.length (Nat.zero_le _) (Nat.le_refl _) H n
 exact kbY
theorem NE62.eqs {P Q : Prop} (g : Imp P Q := by (try simp only [go_sem, seval, hsz, hag, hmo, Ze, Zx, bys, List.length_map, Int.toNat_natCast]); exact Pb) : Imp P Q := g
theorem NE62.sd {P : Prop} (g : P := by first | exact ⟨.inr trivial, om, om⟩ | fail) : P := g
set_option maxHeartbeats 1600000 in
open NE62 NZ in
theorem QE (q : QryE) (hq : q.fine) (H : Heap) (n : Nat) : Ret prog 32 [Ze q] H n (Ze q) H n := by
 have hsz : (Ze q).sz = 10 := ZG q
 have hag : (Ze q).isAgg = true := rfl
 have hmo : (Ze q).memOK = true := rfl
 have h1 := hq.frm
 have h2 := hq.to
 have h3 := hq.pre
 have h4 := hq.token
 have h5 := hq.fams
 refine Ret.fin ?_
 refine fw func32 ntmps32 results32 ?_
 refine rg zs [1, 2] ?_
 refine rk zs [1, 2] fun K V => ?_
 refine ck func23 ((Vx q.frm om _ _)) ?_
 refine kas ?_
 refine rk zs [1, 2] fun K V => ?_
 refine ck func23 ((Vx q.to om _ _)) ?_
 refine kas ?_
 refine rk zs [1, 2] fun K V => ?_
 refine ck func23 ((Vx q.pre om _ _)) ?_
 refine kas ?_
 refine rk zs [1, 2] fun K V => ?_
 refine ck func23 ((Vx q.token om _ _)) ?_
 refine kas ?_
 refine rg zs [1, 2, 3] ?_
 refine rg zs [1, 2] ?_
 refine kal ?_
 exact ⟨_, rfl, fun k hk => oh, .kl (kl_qry q _)⟩
def q0 : QryE := { frm := [], to := [], fams := [], pre := [], time := 0, n := 1, rows := 2, rev := false, whr := [118, 97, 108, 117, 101, 32, 61, 32, 34, 49, 34], token := [] }
def pg0 : PgE := (runE twoF q0 9 (some (Yp, 0))).1
def q1 : QryE := { q0 with token := pg0.token }
def pg1 : PgE := (runE twoF q1 99 (some (Yp.drop 2, 0))).1
theorem st1 : (runE twoF q0 9 (some (Yp, 0))).2.2 = 0 ∧ pg0.rows.length = 2 ∧ (pg0.rows.getD 0 default).cells.length = 1 ∧ pg0.done = false ∧ pg0.token.length ≠ 0 ∧ pg0.token.length ≤ 1000 := by decide +kernel
theorem st2 : ZV q1 = ([114, 50, 0], true, 0) := by decide +kernel
theorem st3 : (runE twoF q1 99 (some (Yp.drop 2, 0))).2.2 = 0 ∧ pg1.rows.length = 1 ∧ pg1.done = true ∧ pg1.token = [] := by decide +kernel
theorem q0_fine : q0.fine := ⟨odc, odc, odc, odc, odc, odc⟩
theorem q1_fine : q1.fine := ⟨odc, odc, odc, odc, odc, by have := st1.2.2.2.2.2; show pg0.token.length ≤ _; omega⟩
theorem JV : Xn Yp := ⟨odc, fun x hx => by simp only [Yp, List.mem_cons, List.not_mem_nil, or_false] at hx; rcases hx with rfl | rfl | rfl <;> refine ⟨odc, odc, fun c hc => ?_⟩ <;> simp only [WL, List.mem_cons, List.not_mem_nil, or_false] at hc <;> rcases hc with rfl | rfl <;> decide⟩
theorem Xn.drop {l : List RowE} (h : Xn l) (k : Nat) : Xn (l.drop k) := ⟨by rw [List.length_drop]; have := h.1; omega, fun x hx => h.2 x (List.mem_of_mem_drop hx)⟩
theorem cq_two (H : Heap) : QO prog (.fn (.func 14) [] []) [] H (Zf twoF) := fun m => Zq func14 rfl rfl rfl (QC H m) ⟨rfl, rfl, rfl⟩
theorem cq_plain (H : Heap) : QO prog (.fn (.func 17) [] []) [] H (.sl 2 (Yp.map Zm)) := fun m => Zq func17 rfl rfl rfl (Uw H m) ⟨rfl, rfl, rfl⟩
theorem ret_start (q : QryE) (hq : q.fine) {r : List UInt8 × Bool × Int} (hr : ZV q = r) {H : Heap} {n : Nat} (hG : GOK 1 1 H n) : Ret prog 24 [Ze q] H n (.tup [bys r.1, .bool r.2.1, .int .i64 r.2.2]) H n := by
 have := Jk hq hG (QL.ro q H)
 unfold Xa at this
 rw [hr] at this
 exact this
theorem NE70.eqs {P Q : Prop} (g : Imp P Q := by (try simp only [go_sem, seval, hszq, hagq, hmoq, hszp, hagp, hmop, b1, b2, g1, g2, g3, s2, s3, s4, u2, u3, u4, hn0, pgAV, Zm, bys, Nat.add_assoc, List.length_map, Int.toNat_natCast]); exact Pb) : Imp P Q := g
theorem NE70.sd {P : Prop} (g : P := by first | ((repeat' apply And.intro) <;> first | (intro d hd; cases hd; exact cq_two _) | (intro d hd; cases hd; exact cq_plain _) | (intro g; trivial) | (intro g; rfl)) | exact ⟨1, rfl, rfl⟩ | fail) : P := g
set_option maxRecDepth 100000 in
set_option maxHeartbeats 3200000 in
open NE70 NZ in
theorem Me (H : Heap) (n : Nat) (hG : GOK 1 1 H n) : Ret prog 31 [] H n (.bool true) H n := by
 have hszq : ∀ q, (Ze q).sz = 10 := ZG
 have hagq : ∀ q, (Ze q).isAgg = true := fun _ => rfl
 have hmoq : ∀ q, (Ze q).memOK = true := fun _ => rfl
 have hszp : ∀ p, (pgAV p).sz = 3 := fun _ => rfl
 have hagp : ∀ p, (pgAV p).isAgg = true := fun _ => rfl
 have hmop : ∀ p, (pgAV p).memOK = true := fun _ => rfl
 have hg1 := hG.gek
 have hg2 := hG.get
 obtain ⟨s1, s2, s3, s4, s5, s6⟩ := st1
 obtain ⟨u1, u2, u3, u4⟩ := st3
 have hn0 : nth (pg0.rows.map Zm) 0 = Zm (pg0.rows.getD 0 default) := Zt Zm _ 0 om
 have b1 := hG
 have b2 := hG
 have g1 : (n = n + 1) = False := osi
 have g2 : (n = n + 2) = False := osi
 have g3 := hG
 refine Ret.fin ?_
 refine fw func31 ntmps31 results31 ?_
 refine rg zs [] ?_
 refine rg zs [1] ?_
 refine NN n (els' := [Ze q0]) (N8 _ _ _) ⟨Wk.agg ⟨Wk.nilsl 1, Wk.nilsl 1, Wk.nilsl 1, Wk.nilsl 1, .refl _, .refl _, .refl _, .refl _, .refl _, Wk.nilsl 1, trivial⟩, trivial⟩ ?_
 refine awp_seq_j (fun T' H' n' => ∃ kp : Nat, T' = tl [(1, .loc n 0 0 0 []), (2, .loc kp 0 0 0 []), (3, .int .i64 0)] ∧ H' n = some (.arr 0 10 [Ze q0]) ∧ H' kp = some (.arr 0 3 [pgAV pg0]) ∧ n < kp ∧ kp < n' ∧ ∀ k, k < n → H' k = H k) ?_ ?_
 ·refine awp_tree1 rfl zs [1, 2, 3] 10 [.c, .q, .c, .q, .w [1], .q, .w [], .m, .q, .q, .w [], .w [9], .q] [0, 1, 2, 3, 4, 5, 6, 7, 8, 9] [11, 12] (.w [0, 1, 2, 3, 5, 8, 9]) [(4, .w [0, 1, 2, 3]), (6, .w [0, 1, 2, 3, 5])] [0, 1, 2, 3, 4, 5, 6, 7, 8, 9, 0, 10, 11] odc (by kernel_rfl) (fun _ _ _ _ _ h => h) fun K V => ?_
  refine nz ?_
  refine cq func14 (fun _ n => (QC _ _)) ?_
  refine cq func17 (fun _ n => (Uw _ _)) ?_
  refine And.intro ?_ ?_
  ·refine nz ?_
   refine Zr (args' := [Zf twoF, Ze q0, .int .i64 9, .iface 52 (.loc _ 0 0 0 [])]) func18 rfl rfl rfl ((WX twoF odc q0 q0_fine 9 Yp 0 JV _ ?_ ?_)) ?_ ?_
   ·exact hG.on (fun k hk => oh) om
   ·refine ohx ?_; rfl
   rotate_left
   ·exact kb4
   intro rr H1 n1 hc
   obtain ⟨hn1, hlo1, hr⟩ := hc
   rw [s1, show (runE twoF q0 9 (some (Yp, 0))).1 = pg0 from rfl] at hr
   cases hr
   have g3 : (n = n1) = False := oz
   have b2 : H1 n = some (.arr 0 10 [Ze q0]) := (hlo1 _ om om).trans oh
   have b1 : H1 (n + 1) = some (.arr 0 3 [.agg [.nilsl, .nilsl, .bool false]]) := (hlo1 _ om om).trans oh
   exact kak
  refine nz ?_
  refine And.intro ?_ ?_
  ·refine nz ?_
   refine Zr (args' := [Zf twoF, Ze q0, .int .i64 9, .iface 52 (.loc _ 0 0 0 [])]) func18 rfl rfl rfl ((WX twoF odc q0 q0_fine 9 Yp 0 JV _ ?_ ?_)) ?_ ?_
   ·exact hG.on (fun k hk => oh) om
   ·refine ohx ?_; rfl
   rotate_left
   ·exact kb4
   intro rr H1 n1 hc
   obtain ⟨hn1, hlo1, hr⟩ := hc
   rw [s1, show (runE twoF q0 9 (some (Yp, 0))).1 = pg0 from rfl] at hr
   cases hr
   have g3 : (n = n1) = False := oz
   have b2 : H1 n = some (.arr 0 10 [Ze q0]) := (hlo1 _ om om).trans oh
   have b1 : H1 (n + 2) = some (.arr 0 3 [.agg [.nilsl, .nilsl, .bool false]]) := (hlo1 _ om om).trans oh
   exact kak
  refine nz ?_
  refine Zr (args' := [Zf twoF, Ze q0, .int .i64 9, .iface 52 (.loc _ 0 0 0 [])]) func18 rfl rfl rfl ((WX twoF odc q0 q0_fine 9 Yp 0 JV _ ?_ ?_)) ?_ ?_
  ·exact hG.on (fun k hk => oh) om
  ·refine ohx ?_; rfl
  rotate_left
  ·exact kb4
  intro rr H1 n1 hc
  obtain ⟨hn1, hlo1, hr⟩ := hc
  rw [s1, show (runE twoF q0 9 (some (Yp, 0))).1 = pg0 from rfl] at hr
  cases hr
  have g3 : (n = n1) = False := oz
  have b2 : H1 n = some (.arr 0 10 [Ze q0]) := (hlo1 _ om om).trans oh
  exact kak
 rintro T9 H1 n1 ⟨kp, rfl, b2, b1, hkp, hkn, hlow1⟩
 refine Zb fun K1 hK1 => ?_
 refine rc zs [1, 2, 45] func20 ((X9 _ _ _)) ?_
 refine Za ?_ ?_ <;> intro hb
 ·exact absurd hb (by simp [s5])
 refine kay ?_
 refine rg zs [1, 2] ?_
 refine rk zs [1, 2, 4, 5, 6] fun K V => ?_
 refine ck func24 ((ret_start q1 q1_fine st2 (hG.on (fun k hk => ohx (hlow1 k hk)) om))) ?_
 refine kas ?_
 refine Zb fun K2 hK2 => ?_
 refine Zg zs [1, 2, 67] fun K V => ?_
 refine kaY ?_
 repeat refine peel ?_
 refine Zq func20 rfl rfl rfl ((X9 _ _ _)) ?_
 refine kaY ?_
 repeat (first | (refine And.intro ?_ ?_; · first | exact ⟨rfl, fun x hx => by simp only [List.mem_cons, List.not_mem_nil, or_false] at hx; rcases hx with rfl | rfl | rfl <;> exact ⟨rfl, rfl⟩⟩) | refine peel ?_)
 refine YD func26 rfl rfl rfl (fun _ => (XK [114, 50, 0] [114, 50, 0] _ _)) ?_
 refine kaY ?_
 refine kad ?_
 refine Za ?_ ?_ <;> intro hb
 ·exact kaJ
 refine kaQ ?_
 refine ZM (fun H' n' => H' n = some (.arr 0 10 [Ze q1]) ∧ H' kp = some (.arr 0 3 [pgAV pg0]) ∧ (∀ k, k < n → H' k = H k) ∧ n' = n1) ⟨ohr, ohx b1, fun k hk => ohx (hlow1 k hk), rfl⟩ fun H2 n2 ⟨b2, b1, hlow2, hn2⟩ => ?_
 subst hn2
 have f9 : (n = n2) = False := oz
 have hpl : Yp.length = 3 := rfl
 have hS2 := Xn.drop JV 2
 refine Wy rfl zs [2, 3] [.c, .q, .c, .q, .q, .w [1], .q, .w [], .m, .q, .q, .w [10], .q] [0, 1, 2, 3, 4, 5, 6, 7, 8, 9, 10, 11, 12] [0, 1, 2, 3, 4, 5, 6, 7, 8, 9, 10, 11, 12] (by kernel_rfl) (fun _ _ _ _ _ h => h) fun K V => ?_
 refine kao ?_
 repeat refine peel ?_
 refine YH func14 rfl rfl rfl (fun _ n => (QC _ _)) ?_
 refine kao ?_
 repeat refine peel ?_
 refine YH func17 rfl rfl rfl (fun _ n => (Uw _ _)) ?_
 refine kao ?_
 repeat (first | (refine And.intro ?_ ?_; · first | exact ⟨1, rfl, rfl⟩) | refine peel ?_)
 refine cK func18 ((WX (H := H2.put n2 (some (srcN (Yp.drop 2) 0))) (n := n2 + 1) twoF odc q1 q1_fine 99 (Yp.drop 2) 0 hS2 n2 (hG.on (fun k hk => ohx (hlow2 k hk)) om) oh)) ?_ ?_
 ·exact kb4
 intro rr H3 n3 hc
 obtain ⟨hn3, hlo3, hr⟩ := hc
 rw [u1, show (runE twoF q1 99 (some (Yp.drop 2, 0))).1 = pg1 from rfl] at hr
 cases hr
 have b1 : H3 kp = some (.arr 0 3 [pgAV pg0]) := (hlo3 _ om om).trans (ohx b1)
 have hlow3 : ∀ k, k < n → H3 k = H k := fun k hk => (hlo3 k om om).trans (ohx (hlow2 k hk))
 refine kao ?_
 refine kad ?_
 refine rc zs [0] func20 ((X9 _ _ _)) ?_
 refine ar ?_
 refine ⟨_, rfl, fun k hk => ohx (hlow3 k hk), Frz.eq osi trivial⟩
theorem runE_none (fs : List Fml) (q : QryE) (clock : Int) : (runE fs q clock none).2.2 = if qcE fs q = 0 then 1 else qcE fs q := by
 unfold runE
 by_cases h : qcE fs q = 0
 ·rw [if_neg (by simp [h]), if_pos h]
  split <;> rfl
 ·rw [if_pos h, if_neg h]
theorem Kt (fs : List Fml) (hfs : fs.length ≤ 1048576) (q : QryE) (hq : q.fine) (clock : Int) (rows : List RowE) (hrw : Xn rows) (err : Int) (H : Heap) (n : Nat) (ha : (1 : Nat) ≠ 1 → H 1 = some (.glob 5 JC)) (hb : H 1 = some (.glob 1 VI)) :
   Ret prog 41 [Zf fs, Ze q, .int .i64 clock, .sl 2 (rows.map Zm), .int .i64 err] H n (.tup [pgAV (runE fs q clock (some (rows, err))).1, .int .i64 (runE fs q clock (some (rows, err))).2.2, .bool true]) H n :=
 Ret.below hb fun g2 => by
   by_cases hne : (1 : Nat) = 1
   ·exact LM fs hfs q hq clock rows hrw err H n ⟨ha, hb, om, g2⟩
   ·exact Ret.below (ha hne) fun g1 => LM fs hfs q hq clock rows hrw err H n ⟨ha, hb, g1, g2⟩
theorem cq_ran (fs : List Fml) (hfs : fs.length ≤ 1048576) (q : QryE) (hq : q.fine) (clock : Int) (rows : List RowE) (hrw : Xn rows) (err : Int) (H : Heap) (ha : (1 : Nat) ≠ 1 → H 1 = some (.glob 5 JC)) (hb : H 1 = some (.glob 1 VI)) : QO prog (.fn (.func 41) [] []) [Zf fs, Ze q, .int .i64 clock, .sl 2 (rows.map Zm), .int .i64 err] H (.tup [pgAV (runE fs q clock (some (rows, err))).1, .int .i64 (runE fs q clock (some (rows, err))).2.2, .bool true]) := fun m => Zq func41 rfl rfl rfl (Kt fs hfs q hq clock rows hrw err H m ha hb) ⟨rfl, rfl, rfl⟩
theorem cq_copied (q : QryE) (hq : q.fine) (H : Heap) : QO prog (.fn (.func 32) [] []) [Ze q] H (Ze q) := fun m => Zq func32 rfl rfl rfl (QE q hq H m) ⟨rfl, rfl, rfl⟩
theorem NE80.eqs {P Q : Prop} (g : Imp P Q := by (try simp only [go_sem, seval, hszs, hags, hmos, hszq, hagq, hmoq, hszp, hagp, hmop, f1, f2, f3, f4, f5, Nat.add_assoc, List.length_map, Int.toNat_natCast]); exact Pb) : Imp P Q := g
theorem NE80.sd {P : Prop} (g : P := by first | ((repeat' apply And.intro) <;> first | (intro d hd; cases hd; exact cq_copied q hq _) | (intro d hd; cases hd; exact cq_ran fs hfs q hq clock rows hrw er _ (fun h => ohx (hG.kindsC h)) (ohx hG.table)) | (intro g; trivial) | (intro g; rfl)) | fail) : P := g
set_option maxRecDepth 100000 in
set_option maxHeartbeats 3200000 in
open NE80 NZ in
theorem Ku (fs : List Fml) (hfs : fs.length ≤ 1048576) (q : QryE) (hq : q.fine) (clock : Int) (rows : List RowE) (hrw : Xn rows) (err : Int) (H : Heap) (n : Nat) (hG : GOK 1 1 H n) :
   Ret prog 6 [Zf fs, Ze q, .int .i64 clock, .sl 2 (rows.map Zm), .int .i64 err] H n (.bool true) H n := by
 have hszs : (Zf fs).sz = 1 := rfl
 have hags : (Zf fs).isAgg = true := rfl
 have hmos : (Zf fs).memOK = true := rfl
 have hszq : (Ze q).sz = 10 := ZG q
 have hagq : (Ze q).isAgg = true := rfl
 have hmoq : (Ze q).memOK = true := rfl
 have hszp : ∀ p, (pgAV p).sz = 3 := fun _ => rfl
 have hagp : ∀ p, (pgAV p).isAgg = true := fun _ => rfl
 have hmop : ∀ p, (pgAV p).memOK = true := fun _ => rfl
 have hg1 := hG.gek
 have hg2 := hG.get
 have hrn := runE_none fs q clock
 have f1 : (n = n + 1) = False := osi
 have f2 : (n = n + 2) = False := osi
 have f3 : (n + 1 = n + 2) = False := osi
 have f4 : (n = n + 3) = False := osi
 have f5 : (n + 1 = n + 3) = False := osi
 refine Ret.fin ?_
 refine fw func6 ntmps6 results6 ?_
 refine rg zs [2, 3, 4, 5, 6] ?_
 skip
 refine ZX [2, 3, 4, 5, 6] (fun T' H' n' => ∃ er : Int, T' = tl [(2, .int .i64 clock), (3, .sl 2 (rows.map Zm)), (4, .int .i64 er), (5, .loc n 0 0 0 []), (6, .loc (n + 1) 0 0 0 [])] ∧ H' = (H.put n (some (.arr 0 1 [Zf fs]))).put (n + 1) (some (.arr 0 10 [Ze q])) ∧ n' = n + 2) ?_ ?_
 ·refine rg zs [2, 3, 4, 5, 6, 22] ?_
  refine Za ?_ ?_ <;> intro hb
  ·refine rg1 zs [2, 3, 4, 5, 6] ?_
   refine ns ?_
   exact ⟨_, rfl⟩
  refine ak ?_
  refine ns ?_
  exact ⟨_, rfl⟩
 rintro T9 H9 n9 ⟨er, rfl, rfl, rfl⟩
 refine dx zs [2, 5, 6, 13] [.q, .q, .c, .m, .m, .m, .c, .m, .q, .q, .q, .w [0, 1, 2, 6, 8, 9, 10], .w [9, 10], .q, .q] [0, 1, 2, 3, 4, 5, 6, 7, 8, 9, 10, 11, 12, 13, 14] [0, 1, 2, 3, 4, 5, 6, 7, 8, 9, 10, 11, 12, 13, 14] fun K V => ?_
 refine cq func32 (fun _ n => (QE q hq _ _)) ?_
 refine cq func41 (fun _ n => (Kt fs hfs q hq clock rows hrw er _ _ (fun h => ohx (hG.kindsC h)) (ohx hG.table))) ?_
 apply V; clear V K
 refine rk zs [5, 6, 13, 15] fun K V => ?_
 refine ck func18 ((Md fs hfs q hq clock (hG.on (fun k hk => oh) om))) ?_
 apply V; clear V K
 refine rc zs [13, 15, 16] func38 ((Jo fs hfs q hq _ _)) ?_
 refine ZM (fun H' n' => (∀ k, k < n → H' k = H k) ∧ n + 4 ≤ n') ⟨fun k hk => oh, om⟩ fun H5 n5 ⟨hlo5, hn5⟩ => ?_
 refine ZX [13, 15, 16] (fun T' H' n' => T' = tl [(13, .bool true), (15, .int .i64 (runE fs q clock none).2.2), (16, .int .i64 (runE fs q clock none).2.2)] ∧ H' = H5 ∧ n' = n5) ?_ ?_
 ·refine rg zs [13, 15, 16, 45] ?_
  refine Za ?_ ?_ <;> intro hb
  ·have h0 : qcE fs q = 0 := osb
   rw [if_pos h0] at hrn
   refine rg1 zs [13, 15, 16] ?_
   refine ns ?_
   rw [hrn]; first | done | rfl | exact ⟨rfl, rfl, rfl⟩
  have h0 : ¬ qcE fs q = 0 := osb
  rw [if_neg h0] at hrn
  refine ak ?_
  refine ns ?_
  rw [hrn]; first | done | rfl | exact ⟨rfl, rfl, rfl⟩
 rintro T8 H8 n8 ⟨rfl, rfl, rfl⟩
 refine rk zs [10] fun K V => ?_
 refine cg func20 (fun _ => (X9 _ _ _)) ?_
 refine cg func31 (fun _ => (Me _ _ (hG.on hlo5 om))) ?_
 apply V; clear V K
 refine ar ?_
 refine ⟨_, rfl, hlo5, Frz.eq osi trivial⟩
end Go.Proofs.YtkmkbndcekklmaaGreatDoor