/- Own layer: all pages of a question over rows in order are what it asks for. Plain; no condition. -/
import Derived.Test.YtkmkbndcekklmaaGreatDoorPK
import Derived.Test.YtkmkbndcekklmaaGreatDoorPF
set_option linter.unusedSimpArgs false
set_option linter.unusedVariables false
set_option maxRecDepth 10000
namespace Go.Proofs.YtkmkbndcekklmaaGreatDoor
open Go Go.Sx Go.Rt Go.Proofs
def atZ (q : QryE) : Int := if q.time ≠ 0 then q.time else 5
def UC (q : QryE) (V : List RowE) (j : Nat) : List UInt8 := if j = 0 then [] else tokB q (atZ q) (V.getD (j - 1) default).row
def qAt (q : QryE) (V : List RowE) (j : Nat) (m : Int) : QryE := { q with token := UC q V j, rows := m }
structure YL (fs : List Fml) (q : QryE) (l V : List RowE) : Prop where
 fine : q.fine
 good : qcE fs q = 0
 tok : q.token = []
 up : upL l
 rows : ∀ x ∈ l, Vn fs.length x
 all : V = allV q (Yv fs q) l
section
variable {fs : List Fml} {q : QryE} {l V : List RowE}
theorem YL.mem (h : YL fs q l V) {y : RowE} (hy : y ∈ V) : Y1 q y.row = true ∧ y.row.length ≠ 0 ∧ y.row.length ≤ 256 := by
 rw [h.all] at hy
 unfold allV visL at hy
 obtain ⟨x, hx, rfl⟩ := List.mem_map.1 hy
 obtain ⟨h1, h2⟩ := List.mem_filter.1 hx
 have hg := h.rows x (UH.1 h1)
 unfold visB at h2
 simp only [Bool.and_eq_true] at h2
 exact ⟨h2.1, hg.1, hg.2.1⟩
theorem YL.len (h : YL fs q l V) : V.length ≤ l.length := by
 rw [h.all]
 unfold allV visL
 rw [List.length_map]
 refine Nat.le_trans (List.length_filter_le _ _) ?_
 unfold dirL; split <;> simp
theorem YL.time (h : YL fs q l V) : 0 ≤ q.time ∧ q.time ≤ 1099511627776 := by
 have := (Je h.good).2.1
 unfold Yk Vk at this
 simp only [Bool.and_eq_true, decide_eq_true_eq] at this
 exact ⟨this.2.1.1.1.1.1.2, this.2.1.1.1.1.2⟩
theorem Lt (h : YL fs q l V) : 1 ≤ atZ q ∧ atZ q ≤ 1099511627776 ∧ (q.time = 0 ∨ q.time = atZ q) := by
 have := h.time
 unfold atZ
 split
 ·exact ⟨om, om, .inr rfl⟩
 ·exact ⟨om, om, .inl om⟩
theorem pgTok_len (h : YL fs q l V) (j : Nat) (hj : j ≤ V.length) : (UC q V j).length ≤ 300 := by
 unfold UC
 split
 ·exact Nat.zero_le _
 ·rename_i h0
  refine tokB_len _ _ _ (h.mem ?_).2.2
  exact YH V om
theorem YL.read (h : YL fs q l V) {j : Nat} (hj : j ≤ V.length) (m : Int) : ZM (qAt q V j m) = if j = 0 then (0, [], 0) else (atZ q, (V.getD (j - 1) default).row, 0) := by
 by_cases h0 : j = 0
 ·rw [if_pos h0]; exact readQ_nil (by unfold qAt UC; rw [if_pos h0])
 ·rw [if_neg h0]
  obtain ⟨a1, a2, a3⟩ := Lt h
  have hm : V.getD (j - 1) default ∈ V := YH V om
  obtain ⟨m1, m2, m3⟩ := h.mem hm
  exact KS (q := qAt q V j m) (by unfold qAt UC; rw [if_neg h0]; rfl) a1 a2 a3 m2 m3 m1
theorem YL.check (h : YL fs q l V) {j : Nat} (hj : j ≤ V.length) {m : Int} (m1 : 1 ≤ m) (m2 : m ≤ 1000) : qcE fs (qAt q V j m) = 0 := by
 have hp := Je h.good
 have hf : Yk fs.length (qAt q V j m) = true := by
   have h2 := hp.2.1
   unfold Yk Vk at h2 ⊢
   unfold qAt
   simp only [Bool.and_eq_true, decide_eq_true_eq] at h2 ⊢
   exact ⟨⟨h2.1.1, h2.1.2⟩, ⟨h2.2.1.1, m1⟩, m2⟩
 rw [qcE_of hp.1 hf hp.2.2.1, h.read hj]
 split <;> rfl
theorem YL.left (h : YL fs q l V) {j : Nat} (hj : j ≤ V.length) (m : Int) : visL (qAt q V j m) (Yv fs (qAt q V j m)) (X0 (qAt q V j m) l) = V.drop j := by
 have ht : Yv fs (qAt q V j m) = Yv fs q := rfl
 have ha : allV (qAt q V j m) (Yv fs q) l = V := h.all.symm
 rw [ht]
 by_cases h0 : j = 0
 ·rw [from_none (by unfold qAt UC; rw [if_pos h0]), ha, h0]; rfl
 ·have hr := h.read hj m
  rw [if_neg h0] at hr
  have hl : j - 1 < (allV (qAt q V j m) (Yv fs q) l).length := by rw [ha]; omega
  have hrow : (V.getD (j - 1) default).row = ((allV (qAt q V j m) (Yv fs q) l)[j - 1]).row := by
    have e : (allV (qAt q V j m) (Yv fs q) l)[j - 1] = (allV (qAt q V j m) (Yv fs q) l).getD (j - 1) default := by simp [List.getD, hl]
    rw [e, ha]
  rw [hrow] at hr
  have := from_at h.up hl hr (Lt h).1
  rw [this, ha, show j - 1 + 1 = j by omega]
theorem YL.at (h : YL fs q l V) {j : Nat} (hj : j ≤ V.length) (m : Int) {c : Int} (c1 : 1 ≤ c) (c2 : c ≤ 1099511627776) (hc : j = 0 → c = 5 ∨ q.time ≠ 0) : atE (qAt q V j m) c = (atZ q, 0) := by
 have hr := h.read hj m
 obtain ⟨a1, a2, a3⟩ := Lt h
 unfold atE
 rw [if_neg om, hr]
 by_cases h0 : j = 0
 ·rw [if_pos h0]
  simp only
  rw [if_neg osi, if_neg osi]
  show (if q.time ≠ 0 then (q.time, (0 : Int)) else (c, 0)) = _
  unfold atZ
  by_cases ht : q.time = 0
  ·rw [if_neg (by simp [ht]), if_neg (by simp [ht])]
   rcases hc h0 with h5 | h5
   ·rw [h5]
   ·exact absurd ht h5
  ·rw [if_pos ht, if_pos ht]
 ·rw [if_neg h0]
  simp only
  rw [if_neg osi, if_pos om]
def pgAt (q : QryE) (V : List RowE) (j : Nat) (m : Int) : PgE := if ((V.drop j).length : Int) < m then ⟨V.drop j, [], true⟩ else ⟨(V.drop j).take m.toNat, UC q V (j + m.toNat), false⟩
theorem YL.page (h : YL fs q l V) {j : Nat} (hj : j ≤ V.length) {m : Int} (m1 : 1 ≤ m) (m2 : m ≤ 1000) {c : Int} (c1 : 1 ≤ c) (c2 : c ≤ 1099511627776) (hc : j = 0 → c = 5 ∨ q.time ≠ 0) :
   (runE fs (qAt q V j m) c (some (X0 (qAt q V j m) l, 0))).2.2 = 0 ∧ (runE fs (qAt q V j m) c (some (X0 (qAt q V j m) l, 0))).1 = pgAt q V j m := by
 obtain ⟨m', hm'⟩ := run_from (h.check hj m1 m2) ⟨c1, c2⟩ h.up h.rows
 rw [hm']
 refine ⟨rfl, ?_⟩
 rw [h.left hj, h.at hj m c1 c2 hc]
 show UX (qAt q V j m) (tokB (qAt q V j m) (atZ q)) (V.drop j) = _
 unfold UX pgAt
 have e : (qAt q V j m).rows = m := rfl
 rw [e]
 split
 ·rfl
 ·rename_i hn
  congr 1
  unfold UC
  rw [if_neg om]
  have hi : j + m.toNat - 1 < V.length := by rw [List.length_drop] at hn; omega
  show tokB q (atZ q) ((V.drop j).getD (m.toNat - 1) default).row = _
  rw [show (V.drop j).getD (m.toNat - 1) default = V.getD (j + m.toNat - 1) default by simp [List.getD, List.getElem?_drop]; rw [show j + (m.toNat - 1) = j + m.toNat - 1 by omega]]
theorem YL.fineAt (h : YL fs q l V) {j : Nat} (hj : j ≤ V.length) (m : Int) : (qAt q V j m).fine := ⟨h.fine.frm, h.fine.to, h.fine.fams, h.fine.pre, h.fine.whr, by have := pgTok_len h j hj; show (UC q V j).length ≤ _; omega⟩
theorem pgAt_is (h : YL fs q l V) {j : Nat} (hj : j ≤ V.length) {m : Int} (m1 : 1 ≤ m) : let P := pgAt q V j m
   (P.done = true ∧ P.token = [] ∧ P.rows = V.drop j ∧ (P.rows.length : Int) < m) ∨ (P.done = false ∧ P.token = UC q V (j + m.toNat) ∧ P.token.length ≠ 0 ∧ P.rows = (V.drop j).take m.toNat ∧ (P.rows.length : Int) = m ∧ j + m.toNat ≤ V.length) := by
 intro P
 have hP : P = pgAt q V j m := rfl
 unfold pgAt at hP
 split at hP
 ·left
  rename_i hlt
  rw [hP]
  exact ⟨rfl, rfl, rfl, hlt⟩
 ·right
  rename_i hn
  rw [List.length_drop] at hn
  have hl : j + m.toNat ≤ V.length := om
  rw [hP]
  refine ⟨rfl, rfl, ?_, rfl, ?_, hl⟩
  ·show (UC q V (j + m.toNat)).length ≠ 0
   unfold UC
   rw [if_neg om]
   unfold tokB; rw [XV]; omega
  ·show (((V.drop j).take m.toNat).length : Int) = m
   rw [List.length_take, List.length_drop]; omega
end
end Go.Proofs.YtkmkbndcekklmaaGreatDoor
set_option maxRecDepth 10000
namespace Go.Proofs.YtkmkbndcekklmaaGreatDoor
open Go Go.Sx Go.Rt Go.Proofs Tryz
theorem ret_at (q : QryE) (hq : q.fine) (c : Int) {r : Int × Int} (hr : atE q c = r) {H : Heap} {n : Nat} (hG : GOK 1 1 H n) : Ret prog 36 [Zg q, .int .i64 c] H n (.tup [.int .i64 r.1, .int .i64 r.2]) H n := by
 have := NV q hq c hG
 rw [hr] at this
 exact this
theorem NU10.eqs {P Q : Prop} (g : Imp P Q := by (try simp only [go_sem, seval, hszs, hags, hmos, hnum, hnua, hnum2, hszq, hagq, hmoq, hszp, hagp, hmop, f1, f2, f3, f4, f5, f6, b1, b2, b3, b4, g1, g2, g3, g4, g5, e1, e2, Nat.add_assoc, List.length_map, Int.toNat_natCast]); exact Pm) : Imp P Q := g
theorem NU10.inz {P Q : Prop} (g : Imp P Q := by refine Imp.up eqs ?_; (repeat (first | (refine Imp.nd ?_ ?_; · first | (intros; simp_all; done)) | refine Imp.pl ?_)); exact Pm) : Imp P Q := g
set_option maxRecDepth 100000 in
set_option maxHeartbeats 6400000 in
open NU10 in
theorem NW (fs : List Fml) (hfs : fs.length ≤ 1048576) (q : QryE) (l V : List RowE) (hA : YL fs q l V) (hl : Yh l) (hl4 : l.length ≤ 40) (sizes : List Int) (hsi : sizes.length ≤ 1048576) (H : Heap) (n : Nat) (hG : GOK 1 1 H n) :
   Ret prog 42 [Zi fs, Zg q, .int .i64 5, .sl 2 (l.map Ze), Zu sizes] H n (.tup [.sl 2 (V.map Ze), .bool true]) H n := by
 have hszs : (Zi fs).sz = 1 := rfl
 have hags : (Zi fs).isAgg = true := rfl
 have hmos : (Zi fs).memOK = true := rfl
 have hszq : ∀ q, (Zg q).sz = 10 := Z6
 have hagq : ∀ q, (Zg q).isAgg = true := fun _ => rfl
 have hmoq : ∀ q, (Zg q).memOK = true := fun _ => rfl
 have hnum : ∀ l, (Zu l).sz = 1 := fun _ => rfl
 have hnua : ∀ l, (Zu l).isAgg = false := fun _ => rfl
 have hnum2 : ∀ l, (Zu l).memOK = true := fun _ => rfl
 have hszp : ∀ p, (pgAV p).sz = 3 := fun _ => rfl
 have hagp : ∀ p, (pgAV p).isAgg = true := fun _ => rfl
 have hmop : ∀ p, (pgAV p).memOK = true := fun _ => rfl
 have hg1 := hG.gek
 have hg2 := hG.get
 have hVl := hA.len
 have f1 : (n = n + 1) = False := by simp
 have f2 : (n + 1 = n) = False := by simp
 have f3 : (n = n + 2) = False := by simp
 have f4 : (n + 1 = n + 2) = False := by simp
 have f5 : (n + 2 = n) = False := by simp
 have f6 : (n + 2 = n + 1) = False := by simp
 have b1 := f1
 have b2 := f1
 have b3 := f1
 have b4 := f1
 have g1 := f1
 have g2 := f1
 have g3 := f1
 have g4 := f1
 have g5 := f1
 have e1 := f1
 have e2 := f1
 refine Ret.fin ?_
 refine fw func42 ntmps42 results42 ?_
 refine rg zs [2, 3, 4, 5, 6] ?_
 refine rg zs [2, 3, 4, 5, 6, 12] ?_
 refine Za fun K1 hK1 => ?_
 refine rg zs [2, 3, 4, 5, 6, 12, 13] ?_
 refine Zy ?_
 refine Z8 12 2 rfl ?_
 refine Yp [2, 3, 4, 5, 6, 12, 13] ?_
 refine ns ?_
 refine Zp (fun T' H' n' => ∃ (i j ver : Nat) (mm : Int), i ≤ 60 ∧ i ≤ j ∧ j ≤ V.length ∧ (j = 0 → i = 0) ∧ T' = tl [(2, .int .i64 5), (3, .sl 2 (l.map Ze)), (4, Zu sizes), (5, .loc n 0 0 0 []), (6, .loc (n + 1) 0 0 0 []), (12, .osl (n + 2) ver 0 j), (13, .int .i64 i)] ∧ H' n = some (.arr 0 1 [Zi fs]) ∧ H' (n + 1) = some (.arr 0 10 [Zg (qAt q V j mm)]) ∧ H' (n + 2) = some (.arr ver 2 ((V.take j).map Ze)) ∧ (∀ k, k < n → H' k = H k) ∧ n + 3 ≤ n') (fun T' _ _ => 60 - iv (T' 13)) ?_ ?_
 ·exact ⟨0, 0, 0, q.rows, by omega, by omega, Nat.zero_le _, fun _ => rfl, rfl, by first | ((try simp only [Pj]); (repeat first | rw [if_pos rfl] | rw [if_pos trivial] | rw [if_neg (by omega)]); done) | ((try simp only [Pj]); (repeat first | rw [if_pos rfl] | rw [if_pos trivial] | rw [if_neg (by omega)]); rfl), by (try simp only [Pj]); (repeat first | rw [if_pos rfl] | rw [if_pos trivial] | rw [if_neg (by omega)]); rw [show qAt q V 0 q.rows = q by unfold qAt UC; rw [if_pos rfl, ← hA.tok]], by first | ((try simp only [Pj]); (repeat first | rw [if_pos rfl] | rw [if_pos trivial] | rw [if_neg (by omega)]); done) | ((try simp only [Pj]); (repeat first | rw [if_pos rfl] | rw [if_pos trivial] | rw [if_neg (by omega)]); rfl), fun k hk => by (try simp only [Pj]); (repeat first | rw [if_pos rfl] | rw [if_pos trivial] | rw [if_neg (by omega)]), by omega⟩
 rintro T1 H1 n1 ⟨i, j, ver, mm, hi, hij, hj, hj0, rfl, b1, b2, b3, hlow, hn1⟩
 refine Za fun K2 hK2 => ?_
 refine rg zs [2, 3, 4, 5, 6, 12, 13, 23] ?_
 refine Zb ?_ ?_ <;> intro hb
 ·have hci : i < 60 := by have := of_decide_eq_true hb; omega
  have e1 : IntKind.i64.wrap ((i : Int) + 1) = ((i + 1 : Nat) : Int) := w1 (by omega)
  refine ak ?_
  apply hK2
  refine bk fun K3 hK3 => ?_
  refine Zf zs [2, 3, 4, 5, 6, 12, 13] fun K J => ?_
  try simp only [go_sem, seval, hszs, hags, hmos, hnum, hnua, hnum2, hszq, hagq, hmoq, hszp, hagp, hmop, f1, f2, f3, f4, f5, f6, b1, b2, b3, b4, g1, g2, g3, g4, g5, e1, e2, Nat.add_assoc, List.length_map, Int.toNat_natCast, Zg]
  repeat refine peel ?_
  apply J; clear J K
  refine ZQ [2, 3, 4, 5, 6, 12, 13] (fun T' H' n' => ∃ m : Int, 1 ≤ m ∧ m ≤ 1000 ∧ T' = tl [(2, .int .i64 5), (3, .sl 2 (l.map Ze)), (4, Zu sizes), (5, .loc n 0 0 0 []), (6, .loc (n + 1) 0 0 0 []), (12, .osl (n + 2) ver 0 j), (13, .int .i64 i)] ∧ H' n = some (.arr 0 1 [Zi fs]) ∧ H' (n + 1) = some (.arr 0 10 [Zg (qAt q V j m)]) ∧ H' (n + 2) = some (.arr ver 2 ((V.take j).map Ze)) ∧ (∀ k, k < n → H' k = H k) ∧ n' = n1) ?_ ?_
  ·rcases Nat.lt_or_ge i sizes.length with h6 | h6
   ·have hn3 : nth (sizes.map fun x => AV.int .i64 x) i = .int .i64 (sizes.getD i default) := Zx (fun x => AV.int .i64 x) sizes i h6
    have hd6 : decide ((i : Int) < (sizes.length : Int)) = true := decide_eq_true (by omega)
    have hj1 : qBin prog 3 .geq .junk (.int .i64 1) = none := rfl
    have hj2 : qBin prog 3 .leq .junk (.int .i64 1000) = none := rfl
    refine Zf zs [2, 3, 4, 5, 6, 12, 13, 44] fun K J => ?_
    try simp only [go_sem, seval, hszs, hags, hmos, hnum, hnua, hnum2, hszq, hagq, hmoq, hszp, hagp, hmop, f1, f2, f3, f4, f5, f6, b1, b2, b3, b4, g1, g2, g3, g4, g5, e1, e2, Nat.add_assoc, List.length_map, Int.toNat_natCast, Zu, hn3, hd6, hj1, hj2, show (false == true) = false from rfl, show (true == true) = true from rfl]
    repeat (first | (refine And.intro ?_ ?_; · first | (intro _; exact ⟨by omega, by omega⟩) | (intros; simp_all; done)) | refine peel ?_)
    apply J; clear J K
    refine Zb ?_ ?_ <;> intro hb
    ·have hsz1 : 1 ≤ sizes.getD i default ∧ sizes.getD i default ≤ 1000 := by have h8 := hb; revert h8; cases h9 : decide (1 ≤ sizes.getD i default) <;> intro h8 <;> simp_all
     refine ZG zs [2, 3, 4, 5, 6, 12, 13] fun K J => ?_
     try simp only [go_sem, seval, hszs, hags, hmos, hnum, hnua, hnum2, hszq, hagq, hmoq, hszp, hagp, hmop, f1, f2, f3, f4, f5, f6, b1, b2, b3, b4, g1, g2, g3, g4, g5, e1, e2, Nat.add_assoc, List.length_map, Int.toNat_natCast, Zu, hn3, Zg]
     repeat (first | (refine And.intro ?_ ?_; · first | exact ⟨by omega, by omega⟩) | refine peel ?_)
     apply J; clear J K
     refine ns ?_
     refine ns ?_
     refine ⟨sizes.getD i default, hsz1.1, hsz1.2, ?_⟩; (repeat' apply And.intro) <;> first | rfl | ((try simp only [Pj]); (repeat first | rw [if_pos rfl] | rw [if_pos trivial] | rw [if_neg (by omega)]); first | done | exact b1 | exact b2 | exact b3 | rfl) | (intro k hk; (try simp only [Pj]); (repeat first | rw [if_pos rfl] | rw [if_pos trivial] | rw [if_neg (by omega)]); exact hlow k hk)
    refine ak ?_
    refine ns ?_
    refine ⟨1, by omega, by omega, ?_⟩; (repeat' apply And.intro) <;> first | rfl | ((try simp only [Pj]); (repeat first | rw [if_pos rfl] | rw [if_pos trivial] | rw [if_neg (by omega)]); first | done | exact b1 | exact b2 | exact b3 | rfl) | (intro k hk; (try simp only [Pj]); (repeat first | rw [if_pos rfl] | rw [if_pos trivial] | rw [if_neg (by omega)]); exact hlow k hk)
   ·have hn3 : nth (sizes.map fun x => AV.int .i64 x) i = .junk := by simp [nth, List.getD, h6]
    have hd6 : decide ((i : Int) < (sizes.length : Int)) = false := decide_eq_false (by omega)
    have hj1 : qBin prog 3 .geq .junk (.int .i64 1) = none := rfl
    have hj2 : qBin prog 3 .leq .junk (.int .i64 1000) = none := rfl
    refine Zf zs [2, 3, 4, 5, 6, 12, 13, 44] fun K J => ?_
    try simp only [go_sem, seval, hszs, hags, hmos, hnum, hnua, hnum2, hszq, hagq, hmoq, hszp, hagp, hmop, f1, f2, f3, f4, f5, f6, b1, b2, b3, b4, g1, g2, g3, g4, g5, e1, e2, Nat.add_assoc, List.length_map, Int.toNat_natCast, Zu, hn3, hd6, hj1, hj2, show (false == true) = false from rfl, show (true == true) = true from rfl]
    repeat (first | (refine And.intro ?_ ?_; · first | (intros; simp_all; done)) | refine peel ?_)
    apply J; clear J K
    refine Zb ?_ ?_ <;> intro hb
    ·exact absurd hb (by simp)
    refine ak ?_
    refine ns ?_
    refine ⟨1, by omega, by omega, ?_⟩; (repeat' apply And.intro) <;> first | rfl | ((try simp only [Pj]); (repeat first | rw [if_pos rfl] | rw [if_pos trivial] | rw [if_neg (by omega)]); first | done | exact b1 | exact b2 | exact b3 | rfl) | (intro k hk; (try simp only [Pj]); (repeat first | rw [if_pos rfl] | rw [if_pos trivial] | rw [if_neg (by omega)]); exact hlow k hk)
  rintro T8 H8 n8 ⟨m, m1, m2, rfl, b1, b2, b3, hlow, rfl⟩
  have hqf := hA.fineAt hj m
  have hrd : (ZM (qAt q V j m)).2.2 = 0 := by rw [hA.read hj]; split <;> rfl
  refine rk zs [2, 3, 4, 5, 6, 12, 13, 14, 15] fun K J => ?_
  refine ck func15 ((Kv (qAt q V j m) hqf hrd l hl (hG.on (fun k hk => hlow k hk) (by omega)))) ?_
  apply J; clear J K
  refine Za fun K4 hK4 => ?_
  refine rg zs [2, 3, 4, 5, 6, 12, 13, 14, 57] ?_
  refine Zb ?_ ?_ <;> intro hb
  ·exact absurd hb (by simp)
  refine ak ?_
  apply hK4
  have e2 : IntKind.i64.wrap (5 + (i : Int)) = 5 + (i : Int) := w64 (by omega) (by omega)
  have hfo := from_ok (q := qAt q V j m) hl
  obtain ⟨pg1, pg2⟩ := hA.page hj m1 m2 (c := 5 + (i : Int)) (by omega) (by omega) (fun h0 => .inl (by rw [hj0 h0]; rfl))
  have pg3 := pgAt_is hA hj m1
  obtain ⟨P, hP⟩ : ∃ P, P = pgAt q V j m := ⟨_, rfl⟩
  rw [← hP] at pg2 pg3
  clear hP
  have hPr : P.rows.length ≤ 1000 := by rcases pg3 with ⟨_, _, _, d4⟩ | ⟨_, _, _, _, d5, _⟩ <;> omega
  refine rk zs [2, 3, 4, 5, 6, 12, 13, 16, 17] fun K J => ?_
  refine Zt (args' := [Zi fs, Zg (qAt q V j m), .int .i64 (5 + (i : Int)), .iface 52 (.loc n8 0 0 0 [])]) func18 rfl rfl rfl ((Xc fs hfs (qAt q V j m) hqf (5 + (i : Int)) (X0 (qAt q V j m) l) 0 hfo n8 ?_ ?_)) ?_ ?_
  ·exact hG.on (fun k hk => by (try simp only [Pj]); (repeat first | rw [if_pos rfl] | rw [if_pos trivial] | rw [if_neg (by omega)]); exact hlow k hk) (by omega)
  ·(try simp only [Pj]); (repeat first | rw [if_pos rfl] | rw [if_pos trivial] | rw [if_neg (by omega)]); rfl
  rotate_left
  ·intro p H' n' hc; obtain ⟨_, _, hr⟩ := hc; cases hr
  intro rr H4 n4 hc
  obtain ⟨hn4, hlo4, hr⟩ := hc
  rw [pg1, pg2] at hr
  cases hr
  have b1 : H4 n = some (.arr 0 1 [Zi fs]) := (hlo4 _ (by omega) (by omega)).trans (by (try simp only [Pj]); (repeat first | rw [if_pos rfl] | rw [if_pos trivial] | rw [if_neg (by omega)]); exact b1)
  have b2 : H4 (n + 1) = some (.arr 0 10 [Zg (qAt q V j m)]) := (hlo4 _ (by omega) (by omega)).trans (by (try simp only [Pj]); (repeat first | rw [if_pos rfl] | rw [if_pos trivial] | rw [if_neg (by omega)]); exact b2)
  have b3 : H4 (n + 2) = some (.arr ver 2 ((V.take j).map Ze)) := (hlo4 _ (by omega) (by omega)).trans (by (try simp only [Pj]); (repeat first | rw [if_pos rfl] | rw [if_pos trivial] | rw [if_neg (by omega)]); exact b3)
  have hlow : ∀ k, k < n → H4 k = H k := fun k hk => (hlo4 k (by omega) (by omega)).trans (by (try simp only [Pj]); (repeat first | rw [if_pos rfl] | rw [if_pos trivial] | rw [if_neg (by omega)]); exact hlow k hk)
  have g1 : (n = n4) = False := by simp; omega
  have g2 : (n + 1 = n4) = False := by simp; omega
  have g3 : (n + 2 = n4) = False := by simp; omega
  have g4 : (n4 = n + 1) = False := by simp; omega
  have g5 : (n4 = n + 2) = False := by simp; omega
  refine nz ?_
  apply J; clear J K
  refine Za fun K5 hK5 => ?_
  refine Zf zs [2, 3, 4, 5, 6, 12, 13, 16, 103] fun K J => ?_
  try simp only [go_sem, seval, hszs, hags, hmos, hnum, hnua, hnum2, hszq, hagq, hmoq, hszp, hagp, hmop, f1, f2, f3, f4, f5, f6, b1, b2, b3, b4, g1, g2, g3, g4, g5, e1, e2, Nat.add_assoc, List.length_map, Int.toNat_natCast, pgAV, Zg]
  repeat refine peel ?_
  refine Zo func20 rfl rfl rfl ((Y4 _ _ _)) ?_
  try simp only [go_sem, seval, hszs, hags, hmos, hnum, hnua, hnum2, hszq, hagq, hmoq, hszp, hagp, hmop, f1, f2, f3, f4, f5, f6, b1, b2, b3, b4, g1, g2, g3, g4, g5, e1, e2, Nat.add_assoc, List.length_map, Int.toNat_natCast, pgAV, Zg]
  repeat refine peel ?_
  apply J; clear J K
  refine Zb ?_ ?_ <;> intro hb
  ·have h103 : False := by
     have er : (qAt q V j m).rows = m := rfl
     rw [er] at hb
     rcases pg3 with ⟨d1, d2, d3, d4⟩ | ⟨d1, d2, d3, d4, d5, d6⟩
     ·rw [d1, d2, decide_eq_false (show ¬ m < (P.rows.length : Int) by omega)] at hb; simp at hb
     ·rw [d1, d5, decide_eq_false (show ¬ m < m by omega)] at hb; simp at hb; rw [hb] at d3; exact d3 rfl
   exact h103.elim
  refine ak ?_
  apply hK5
  refine Zf zs [2, 3, 4, 5, 6, 12, 13, 16] fun K J => ?_
  try simp only [go_sem, seval, hszs, hags, hmos, hnum, hnua, hnum2, hszq, hagq, hmoq, hszp, hagp, hmop, f1, f2, f3, f4, f5, f6, b1, b2, b3, b4, g1, g2, g3, g4, g5, e1, e2, Nat.add_assoc, List.length_map, Int.toNat_natCast, pgAV]
  repeat (first | (refine And.intro ?_ ?_; · first | exact ⟨by rw [List.length_take]; omega, .inr trivial, by omega, by omega⟩) | refine peel ?_)
  apply J; clear J K
  refine Za fun K6 hK6 => ?_
  refine Zf zs [2, 3, 4, 5, 6, 12, 13, 16, 109] fun K J => ?_
  try simp only [go_sem, seval, hszs, hags, hmos, hnum, hnua, hnum2, hszq, hagq, hmoq, hszp, hagp, hmop, f1, f2, f3, f4, f5, f6, b1, b2, b3, b4, g1, g2, g3, g4, g5, e1, e2, Nat.add_assoc, List.length_map, Int.toNat_natCast, pgAV]
  repeat refine peel ?_
  apply J; clear J K
  refine Zb ?_ ?_ <;> intro hb
  ·have d3 : P.rows = V.drop j := by rcases pg3 with ⟨d1, d2, d3, d4⟩ | ⟨d1, d2, d3, d4, d5, d6⟩; exact d3; rw [d1] at hb; cases hb
   refine rg zs [10, 11] ?_
   refine ar ?_
   rw [d3]
   refine ⟨_, rfl, fun k hk => by (try simp only [Pj]); (repeat first | rw [if_pos rfl] | rw [if_pos trivial] | rw [if_neg (by omega)]); exact hlow k hk, .tup (.cons (.osl (by first | ((try simp only [Pj]); (repeat first | rw [if_pos rfl] | rw [if_pos trivial] | rw [if_neg (by omega)]); done) | ((try simp only [Pj]); (repeat first | rw [if_pos rfl] | rw [if_pos trivial] | rw [if_neg (by omega)]); rfl)) (by omega) (by simp; omega) ?_) (.cons (.kl trivial) .nil))⟩
   have hE : List.take (j + (List.drop j V).length) (List.drop 0 (List.take j (List.map Ze (List.take j V)) ++ List.map Ze (List.drop j V))) = V.map Ze := by
     rw [List.drop_zero, List.take_of_length_le (show (List.map Ze (List.take j V)).length ≤ j by rw [List.length_map, List.length_take]; omega), ← List.map_append, List.take_append_drop]
     exact List.take_of_length_le (by rw [List.length_map, List.length_drop]; omega)
   rw [hE]
   exact XR _ (XQ Ze (fun r => kl_row r _) _)
  obtain ⟨d1, d2, d3, d4, d5, d6⟩ := pg3.resolve_left (fun h => by rw [h.1] at hb; cases hb)
  have hqf2 := hA.fineAt d6 m
  have ha1 : atE (qAt q V j m) 5 = (atZ q, 0) := hA.at hj m (by decide) (by decide) (fun _ => .inl rfl)
  have ha2 : atE (qAt q V (j + m.toNat) m) 82 = (atZ q, 0) := hA.at d6 m (by decide) (by decide) (fun h => by omega)
  have hw82 : IntKind.i64.wrap 82 = 82 := by decide
  refine ak ?_
  apply hK6
  refine rk zs [2, 3, 4, 5, 6, 12, 13, 16, 18, 19] fun K J => ?_
  refine ck func36 ((ret_at (qAt q V j m) hqf 5 ha1 (hG.on (fun k hk => by (try simp only [Pj]); (repeat first | rw [if_pos rfl] | rw [if_pos trivial] | rw [if_neg (by omega)]); exact hlow k hk) (by omega)))) ?_
  apply J; clear J K
  refine Zf zs [2, 3, 4, 5, 6, 12, 13, 18, 19] fun K J => ?_
  try simp only [go_sem, seval, hszs, hags, hmos, hnum, hnua, hnum2, hszq, hagq, hmoq, hszp, hagp, hmop, f1, f2, f3, f4, f5, f6, b1, b2, b3, b4, g1, g2, g3, g4, g5, e1, e2, Nat.add_assoc, List.length_map, Int.toNat_natCast, pgAV, Zg]
  repeat refine peel ?_
  apply J; clear J K
  refine WP (n + 1) (els := [qaX (qAt q V j m) (bys q.frm) (bys q.to) (Zu q.fams) (bys q.pre) (bys P.token)]) (els' := [Zg (qAt q V (j + m.toNat) m)]) (by first | ((try simp only [Pj]); (repeat first | rw [if_pos rfl] | rw [if_pos trivial] | rw [if_neg (by omega)]); done) | ((try simp only [Pj]); (repeat first | rw [if_pos rfl] | rw [if_pos trivial] | rw [if_neg (by omega)]); rfl)) (wk_qa (q := qAt q V (j + m.toNat) m) (.refl _) (.refl _) (.refl _) (.refl _) (.of_eq (by rw [d2]; rfl))) ?_
  refine Zf zs [2, 3, 4, 5, 6, 12, 13, 18, 19, 20, 21] fun K J => ?_
  try simp only [go_sem, seval, hszs, hags, hmos, hnum, hnua, hnum2, hszq, hagq, hmoq, hszp, hagp, hmop, f1, f2, f3, f4, f5, f6, b1, b2, b3, b4, g1, g2, g3, g4, g5, e1, e2, Nat.add_assoc, List.length_map, Int.toNat_natCast, hw82]
  repeat refine peel ?_
  refine Zo func36 rfl rfl rfl ((ret_at (qAt q V (j + m.toNat) m) hqf2 82 ha2 (hG.on (fun k hk => by (try simp only [Pj]); (repeat first | rw [if_pos rfl] | rw [if_pos trivial] | rw [if_neg (by omega)]); exact hlow k hk) (by omega)))) ?_
  try simp only [go_sem, seval, hszs, hags, hmos, hnum, hnua, hnum2, hszq, hagq, hmoq, hszp, hagp, hmop, f1, f2, f3, f4, f5, f6, b1, b2, b3, b4, g1, g2, g3, g4, g5, e1, e2, Nat.add_assoc, List.length_map, Int.toNat_natCast, hw82]
  repeat refine peel ?_
  apply J; clear J K
  refine Zf zs [2, 3, 4, 5, 6, 12, 13, 139] fun K J => ?_
  try simp only [go_sem, seval, hszs, hags, hmos, hnum, hnua, hnum2, hszq, hagq, hmoq, hszp, hagp, hmop, f1, f2, f3, f4, f5, f6, b1, b2, b3, b4, g1, g2, g3, g4, g5, e1, e2, Nat.add_assoc, List.length_map, Int.toNat_natCast, show (false == false) = true from rfl, show (true == false) = false from rfl]
  repeat refine peel ?_
  refine Zo func20 rfl rfl rfl ((Y4 _ _ _)) ?_
  try simp only [go_sem, seval, hszs, hags, hmos, hnum, hnua, hnum2, hszq, hagq, hmoq, hszp, hagp, hmop, f1, f2, f3, f4, f5, f6, b1, b2, b3, b4, g1, g2, g3, g4, g5, e1, e2, Nat.add_assoc, List.length_map, Int.toNat_natCast, show (false == false) = true from rfl, show (true == false) = false from rfl]
  repeat refine peel ?_
  refine Yz func20 rfl rfl rfl (fun _ => (Y4 _ _ _)) ?_
  try simp only [go_sem, seval, hszs, hags, hmos, hnum, hnua, hnum2, hszq, hagq, hmoq, hszp, hagp, hmop, f1, f2, f3, f4, f5, f6, b1, b2, b3, b4, g1, g2, g3, g4, g5, e1, e2, Nat.add_assoc, List.length_map, Int.toNat_natCast, show (false == false) = true from rfl, show (true == false) = false from rfl]
  repeat refine peel ?_
  apply J; clear J K
  refine Zb ?_ ?_ <;> intro hb
  ·exact absurd hb (by simp)
  refine ak ?_
  apply hK3
  refine rg1 zs [2, 3, 4, 5, 6, 12, 13] ?_
  have hLe : P.rows.length = m.toNat := by omega
  have hE : List.take j (List.map Ze (List.take j V)) ++ List.map Ze P.rows = List.map Ze (V.take (j + m.toNat)) := by
    rw [d4, List.take_of_length_le (show (List.map Ze (List.take j V)).length ≤ j by rw [List.length_map, List.length_take]; omega), ← List.map_append, List.take_add]
  rw [hE, hLe]
  refine ⟨⟨i + 1, j + m.toNat, ver + 1, m, by omega, by omega, d6, fun h => by omega, rfl, rfl, rfl, fun k hk => ?_, by omega⟩, by omega⟩
  (try simp only [Pj]); (repeat first | rw [if_pos rfl] | rw [if_pos trivial] | rw [if_neg (by omega)])
  exact hlow k hk
 exact absurd (of_decide_eq_false hb) (by omega)
def qOne : QryE := { frm := [], to := [], fams := [], pre := [], time := 0, n := 1, rows := 1, rev := false, whr := [], token := [] }
theorem qOne_qcE (fs : List Fml) : qcE fs qOne = Zv fs := by
 unfold qcE
 by_cases h : Zv fs = 0
 ·rw [if_neg (by simp [h]), if_neg (by simp [Yk, Qe, Uj, Vk, qOne]), if_neg (by rintro ⟨a, _⟩; simp [qOne] at a), h]
  rfl
 ·rw [if_pos h]
theorem qOne_fine : qOne.fine := ⟨Nat.zero_le _, Nat.zero_le _, Nat.zero_le _, Nat.zero_le _, Nat.zero_le _, Nat.zero_le _⟩
theorem wk_one : Wk (.agg [.nilsl, .nilsl, .nilsl, .nilsl, .int .i64 0, .int .i64 1, .int .i64 1, .bool false, .str [], .nilsl]) (Zg qOne) :=
 Wk.agg ⟨.nilsl 1, .nilsl 1, .nilsl 1, .nilsl 1, .refl _, .refl _, .refl _, .refl _, .refl _, .nilsl 1, trivial⟩
def schG (fs : List Fml) : List Fml := if Zv fs = 0 then fs else twoF
theorem schG_ok (fs : List Fml) : Zv (schG fs) = 0 := by unfold schG; split; assumption; exact JE
theorem schG_len {fs : List Fml} (h : fs.length ≤ 1048576) : (schG fs).length ≤ 1048576 := by unfold schG; split; exact h; decide
theorem JF {a b : List RowE} (ha : Yh a) (hb : Yh b) (h : a.length + b.length ≤ 1048576) : Yh (a ++ b) :=
 ⟨by rw [List.length_append]; exact h, fun x hx => by rcases List.mem_append.1 hx with h | h; exact ha.2 x h; exact hb.2 x h⟩
theorem ask_of (fs : List Fml) (h : Zv fs = 0) {q : QryE} (hq : q.fine) (l : List RowE) : YL fs (XI fs q) (Vj fs.length l) (allV (XI fs q) (Yv fs (XI fs q)) (Vj fs.length l)) :=
 ⟨Nr hq, Nq h q, goodE_token _ _, neatE_up _ _, neatE_good _ _, rfl⟩
theorem allV_cells {q : QryE} {t : Option Tst} {l : List RowE} (h : Yh l) : ∀ x ∈ allV q t l, x.cells.length ≤ 1048576 := fun x hx => by
 unfold allV visL at hx
 obtain ⟨y, hy, rfl⟩ := List.mem_map.1 hx
 have := (h.2 y (UH.1 (List.mem_filter.1 hy).1)).2.1
 exact Nat.le_trans (List.length_filter_le _ _) this
end Go.Proofs.YtkmkbndcekklmaaGreatDoor
set_option maxRecDepth 10000
namespace Go.Proofs.YtkmkbndcekklmaaGreatDoor
open Go Go.Sx Go.Rt Go.Proofs
theorem putN_keep {l : List RowE} {r y : RowE} (h : y ∈ l) : y ∈ putN l r := by
 unfold putN
 split
 ·exact h
 ·rw [List.append_assoc, List.mem_append, List.singleton_append, List.mem_cons]
  rw [← List.take_append_drop (posN l r.row) l, List.mem_append] at h
  rcases h with h | h
  ·exact .inl h
  ·exact .inr (.inr h)
theorem Nu (nf : Nat) : ∀ (m l : List RowE) {y : RowE}, y ∈ l → y ∈ m.foldl (VB nf) l
 | [], l, y, h => h
 | x :: m, l, y, h => by
   rw [List.foldl_cons]
   refine Nu nf m _ ?_
   unfold VB; split
   ·exact h
   ·exact putN_keep h
theorem neatE_keep (nf : Nat) (l m : List RowE) {y : RowE} (h : y ∈ Vj nf l) : y ∈ Vj nf (l ++ m) := by
 unfold Vj Jy at *
 rw [List.take_append, List.foldl_append]
 exact Nu nf _ _ h
theorem allV_keep {q : QryE} {t : Option Tst} {l m : List RowE} (h : ∀ y ∈ l, y ∈ m) : ∀ y ∈ allV q t l, y ∈ allV q t m := fun y hy => by
 unfold allV visL at *
 obtain ⟨x, hx, rfl⟩ := List.mem_map.1 hy
 obtain ⟨h1, h2⟩ := List.mem_filter.1 hx
 exact List.mem_map.2 ⟨x, List.mem_filter.2 ⟨UH.2 (h x (UH.1 h1)), h2⟩, rfl⟩
def behind (rev : Bool) (A : List RowE) (y : RowE) : Prop := ∀ a ∈ A, dirB rev a.row y.row
instance (rev : Bool) (A : List RowE) (y : RowE) : Decidable (behind rev A y) := by unfold behind; infer_instance
def remV (rev : Bool) (A V : List RowE) : List RowE := V.filter fun y => decide (behind rev A y)
structure MvS (q : QryE) (V A : List RowE) : Prop where
 up : A.Pairwise fun a b => dirB q.rev a.row b.row
 ok : ∀ y ∈ A, Y1 q y.row = true ∧ y.row.length ≠ 0 ∧ y.row.length ≤ 256
 cov : ∀ y ∈ V, (∃ a ∈ A, a.row = y.row) ∨ behind q.rev A y
theorem MvS.nil (q : QryE) (V : List RowE) : MvS q V [] := ⟨List.Pairwise.nil, (fun y h => by cases h), fun y _ => .inr (fun a h => by cases h)⟩
theorem behind_last {rev : Bool} {A : List RowE} (h : A.Pairwise fun a b => dirB rev a.row b.row) (hne : A ≠ []) (y : RowE) : behind rev A y ↔ dirB rev (A.getLast hne).row y.row := by
 constructor
 ·exact fun hb => hb _ (List.getLast_mem hne)
 ·intro hb a ha
  obtain ⟨B, z, rfl⟩ : ∃ B z, A = B ++ [z] := ⟨A.dropLast, A.getLast hne, (List.dropLast_concat_getLast hne).symm⟩
  have hgl : (B ++ [z]).getLast hne = z := osi
  rw [hgl] at hb
  rcases List.mem_append.1 ha with ha | ha
  ·exact dirB_tr ((List.pairwise_append.1 h).2.2 a ha z osi) hb
  ·rw [List.mem_singleton.1 ha]; exact hb
def lastT (q : QryE) (A : List RowE) : List UInt8 := if h : A = [] then [] else tokB q (atZ q) (A.getLast h).row
def qMv (q : QryE) (A : List RowE) : QryE := { q with token := lastT q A, rows := 1 }
section
variable {fs : List Fml} {q : QryE} {l V A : List RowE}
theorem Mi (h : YL fs q l V) {A W : List RowE} (hA : MvS q W A) : ZM (qMv q A) = if hn : A = [] then (0, [], 0) else (atZ q, (A.getLast hn).row, 0) := by
 by_cases h0 : A = []
 ·rw [dif_pos h0]; exact readQ_nil (by unfold qMv lastT; rw [dif_pos h0])
 ·rw [dif_neg h0]
  obtain ⟨a1, a2, a3⟩ := Lt h
  obtain ⟨m1, m2, m3⟩ := hA.ok _ (List.getLast_mem h0)
  exact KS (q := qMv q A) (by unfold qMv lastT; rw [dif_neg h0]; rfl) a1 a2 a3 m2 m3 m1
theorem mv_check (h : YL fs q l V) {A W : List RowE} (hA : MvS q W A) : qcE fs (qMv q A) = 0 := by
 have hp := Je h.good
 have hf : Yk fs.length (qMv q A) = true := by
   have h2 := hp.2.1
   unfold Yk Vk at h2 ⊢
   unfold qMv
   simp only [Bool.and_eq_true, decide_eq_true_eq] at h2 ⊢
   exact ⟨⟨h2.1.1, h2.1.2⟩, ⟨h2.2.1.1, om⟩, om⟩
 rw [qcE_of hp.1 hf hp.2.2.1, Mi h hA]
 split <;> rfl
theorem mv_left (h : YL fs q l V) {A W : List RowE} (hA : MvS q W A) : visL (qMv q A) (Yv fs (qMv q A)) (X0 (qMv q A) l) = remV q.rev A V := by
 have ht : Yv fs (qMv q A) = Yv fs q := rfl
 have ha : allV (qMv q A) (Yv fs q) l = V := h.all.symm
 rw [ht]
 unfold remV
 by_cases h0 : A = []
 ·rw [from_none (by unfold qMv lastT; rw [dif_pos h0]), ha]
  refine (List.filter_eq_self.2 fun y _ => decide_eq_true ?_).symm
  rw [h0]; intro a h; cases h
 ·have hr := Mi h hA
  rw [dif_neg h0] at hr
  rw [from_tok hr (Lt h).1, ha]
  exact List.filter_congr fun y _ => decide_eq_decide.2 (behind_last hA.up h0 y).symm
theorem mv_at (h : YL fs q l V) {A W : List RowE} (hA : MvS q W A) : atE (qMv q A) 5 = (atZ q, 0) := by
 have hr := Mi h hA
 have := Lt h
 unfold atE
 rw [if_neg odc, hr]
 by_cases h0 : A = []
 ·rw [dif_pos h0]
  simp only
  rw [if_neg osi, if_neg osi]
  show (if q.time ≠ 0 then (q.time, (0 : Int)) else (5, 0)) = _
  unfold atZ
  by_cases ht : q.time = 0
  ·rw [if_neg (by simp [ht]), if_neg (by simp [ht])]
  ·rw [if_pos ht, if_pos ht]
 ·rw [dif_neg h0]
  simp only
  rw [if_neg osi, if_pos om]
def pgMv (q : QryE) (A R : List RowE) : PgE := match R with | [] => ⟨[], [], true⟩ | y :: _ => ⟨[y], lastT q (A ++ [y]), false⟩
theorem mv_page (h : YL fs q l V) {A W : List RowE} (hA : MvS q W A) : (runE fs (qMv q A) 5 (some (X0 (qMv q A) l, 0))).2.2 = 0 ∧ (runE fs (qMv q A) 5 (some (X0 (qMv q A) l, 0))).1 = pgMv q A (remV q.rev A V) := by
 obtain ⟨m', hm'⟩ := run_from (mv_check h hA) (clock := 5) ⟨odc, odc⟩ h.up h.rows
 rw [hm']
 refine ⟨rfl, ?_⟩
 rw [mv_left h hA, mv_at h hA]
 show UX (qMv q A) (tokB (qMv q A) (atZ q)) (remV q.rev A V) = _
 unfold UX
 have e : (qMv q A).rows = 1 := rfl
 rw [e]
 cases hR : remV q.rev A V with
 | nil => rfl
 | cons y R =>
   rw [if_neg (by rw [List.length_cons]; omega)]
   show (⟨[y], tokB q (atZ q) y.row, false⟩ : PgE) = ⟨[y], lastT q (A ++ [y]), false⟩
   congr 1
   unfold lastT
   rw [dif_neg osi, show (A ++ [y]).getLast osi = y by simp]
theorem mv_fine (h : YL fs q l V) {A W : List RowE} (hA : MvS q W A) : (qMv q A).fine := by
 refine ⟨h.fine.frm, h.fine.to, h.fine.fams, h.fine.pre, h.fine.whr, ?_⟩
 show (lastT q A).length ≤ _
 unfold lastT
 split
 ·exact Nat.zero_le _
 ·rename_i h0
  have := tokB_len q (atZ q) (A.getLast h0).row (hA.ok _ (List.getLast_mem h0)).2.2
  omega
theorem mv_step (h : YL fs q l V) {A W R : List RowE} {y : RowE} (hA : MvS q W A) (hW : ∀ w ∈ W, w ∈ V) (hR : remV q.rev A V = y :: R) : MvS q W (A ++ [y]) := by
 have hVu : V.Pairwise fun a b => dirB q.rev a.row b.row := by rw [h.all]; exact allV_up h.up
 have hRu : (y :: R).Pairwise fun a b => dirB q.rev a.row b.row := by rw [← hR]; exact hVu.sublist List.filter_sublist
 have hy : y ∈ V ∧ behind q.rev A y := by
   have : y ∈ remV q.rev A V := by rw [hR]; simp
   obtain ⟨a, b⟩ := List.mem_filter.1 this
   exact ⟨a, of_decide_eq_true b⟩
 refine ⟨?_, ?_, ?_⟩
 ·rw [List.pairwise_append]
  exact ⟨hA.up, List.pairwise_singleton _ _, fun a ha b hb => by rw [List.mem_singleton.1 hb]; exact hy.2 a ha⟩
 ·intro x hx
  rcases List.mem_append.1 hx with hx | hx
  ·exact hA.ok x hx
  ·rw [List.mem_singleton.1 hx]; exact h.mem hy.1
 ·intro w hw
  rcases hA.cov w hw with ⟨a, ha, e⟩ | hb
  ·exact .inl ⟨a, by simp [ha], e⟩
  ·have hwR : w ∈ y :: R := by rw [← hR]; exact List.mem_filter.2 ⟨hW w hw, decide_eq_true hb⟩
   rcases List.mem_cons.1 hwR with rfl | hwR
   ·exact .inl ⟨w, osi, rfl⟩
   ·right
    intro a ha
    rcases List.mem_append.1 ha with ha | ha
    ·exact hb a ha
    ·rw [List.mem_singleton.1 ha]; exact (List.pairwise_cons.1 hRu).1 w hwR
theorem mv_done {A W : List RowE} (hA : MvS q W A) (hW : ∀ w ∈ W, w ∈ V) (hR : remV q.rev A V = []) : ∀ w ∈ W, ∃ a ∈ A, a.row = w.row := fun w hw => by
 rcases hA.cov w hw with h | hb
 ·exact h
 ·have : w ∈ remV q.rev A V := List.mem_filter.2 ⟨hW w hw, decide_eq_true hb⟩
  rw [hR] at this; cases this
theorem mv_less {A R : List RowE} {y : RowE} (hR : remV q.rev A V = y :: R) : (remV q.rev (A ++ [y]) V).length + 1 ≤ (remV q.rev A V).length := by
 have e : remV q.rev (A ++ [y]) V = (remV q.rev A V).filter fun z => decide (dirB q.rev y.row z.row) := by
   unfold remV
   rw [List.filter_filter]
   refine List.filter_congr fun z _ => ?_
   rw [Bool.eq_iff_iff, Bool.and_eq_true, decide_eq_true_eq, decide_eq_true_eq, decide_eq_true_eq]
   constructor
   ·exact fun hb => ⟨hb y osi, fun a ha => hb a (by simp [ha])⟩
   ·rintro ⟨h1, h2⟩ a ha
    rcases List.mem_append.1 ha with ha | ha
    ·exact h2 a ha
    ·rw [List.mem_singleton.1 ha]; exact h1
 rw [e, hR, List.filter_cons_of_neg (by simpa using fun h => QF h), List.length_cons]
 have := List.length_filter_le (fun z : RowE => decide (dirB q.rev y.row z.row)) R
 omega
theorem remV_len (rev : Bool) (A V : List RowE) : (remV rev A V).length ≤ V.length := List.length_filter_le _ _
theorem mv_find {A W : List RowE} {rev : Bool} (hA : A.Pairwise fun a b => dirB rev a.row b.row) (hW : W.Pairwise fun a b => dirB rev a.row b.row) (hc : ∀ w ∈ W, ∃ a ∈ A, a.row = w.row) {i k : Nat} (hi : i < A.length) (hk : k < W.length)
   (hb : ∀ j, j < i → dirB rev (A.getD j default).row (W.getD k default).row) :
   ((A.getD i default).row ≠ (W.getD k default).row → ∀ j, j < i + 1 → dirB rev (A.getD j default).row (W.getD k default).row) ∧
   ((A.getD i default).row = (W.getD k default).row → k + 1 < W.length → ∀ j, j < i + 1 → dirB rev (A.getD j default).row (W.getD (k + 1) default).row) := by
 have gA : ∀ j (h : j < A.length), A.getD j default = A[j] := fun j h => by simp [List.getD, h]
 have gW : ∀ j (h : j < W.length), W.getD j default = W[j] := fun j h => by simp [List.getD, h]
 have pA : ∀ j j' (h : j < A.length) (h' : j' < A.length), j < j' → dirB rev A[j].row A[j'].row := fun j j' h h' hl => List.pairwise_iff_getElem.1 hA j j' h h' hl
 constructor
 ·intro hne j hj
  rcases Nat.lt_or_ge j i with h1 | h1
  ·exact hb j h1
  ·obtain rfl : j = i := om
   obtain ⟨a, ha, e⟩ := hc _ (YH W hk)
   obtain ⟨m, hm, rfl⟩ := List.mem_iff_getElem.1 ha
   rcases Nat.lt_or_ge m j with h2 | h2
   ·have := hb m h2
    rw [gA m hm, e] at this
    exact (QF this).elim
   ·rcases Nat.lt_or_ge j m with h3 | h3
    ·rw [gA j hi, ← e]; exact pA j m hi hm h3
    ·obtain rfl : m = j := om
     rw [gA m hm] at hne
     exact absurd e hne
 ·intro he hk2 j hj
  have h1 : dirB rev (W.getD k default).row (W.getD (k + 1) default).row := by
    rw [gW k hk, gW (k + 1) hk2]
    exact List.pairwise_iff_getElem.1 hW k (k + 1) hk hk2 om
  rcases Nat.lt_or_ge j i with h2 | h2
  ·exact dirB_tr (hb j h2) h1
  ·obtain rfl : j = i := om
   rw [he]; exact h1
theorem mv_all {A W : List RowE} {rev : Bool} (hc : ∀ w ∈ W, ∃ a ∈ A, a.row = w.row) {k : Nat} (hb : k < W.length → ∀ j, j < A.length → dirB rev (A.getD j default).row (W.getD k default).row) : W.length ≤ k := by
 rcases Nat.lt_or_ge k W.length with h | h
 ·obtain ⟨a, ha, e⟩ := hc _ (YH W h)
  obtain ⟨m, hm, rfl⟩ := List.mem_iff_getElem.1 ha
  have := hb h m hm
  rw [show A.getD m default = A[m] by simp [List.getD, hm], e] at this
  exact (QF this).elim
 ·exact h
end
end Go.Proofs.YtkmkbndcekklmaaGreatDoor
set_option maxRecDepth 10000
namespace Go.Proofs.YtkmkbndcekklmaaGreatDoor
open Go Go.Sx Go.Rt Go.Proofs Tryz
def mvL (stay : List RowE) (turns : List (List RowE)) (i : Nat) : List RowE := ZJ ++ stay ++ (if i < turns.length ∧ i < 40 then turns.getD i default else [])
theorem mvL_ok {stay : List RowE} {turns : List (List RowE)} (h1 : Yh stay) (h2 : ∀ y ∈ turns, Yh y ∧ 3 + stay.length + y.length ≤ 1048576) (h3 : 3 + stay.length ≤ 1048576) (i : Nat) : Yh (mvL stay turns i) := by
 unfold mvL
 have ha := JF UB h1 (by show 3 + stay.length ≤ _; omega)
 have hal : (ZJ ++ stay).length = 3 + stay.length := by rw [List.length_append]; rfl
 split
 ·rename_i h
  obtain ⟨a, b⟩ := h2 _ (YH turns h.1)
  exact JF ha a om
 ·rw [List.append_nil]; exact ha
theorem Nf (nf : Nat) (stay : List RowE) (turns : List (List RowE)) (i : Nat) : ∀ y ∈ Vj nf (ZJ ++ stay), y ∈ Vj nf (mvL stay turns i) := fun y hy => neatE_keep nf _ _ hy
theorem mvL_late (stay : List RowE) (turns : List (List RowE)) {i : Nat} (h : 40 ≤ i) : mvL stay turns i = ZJ ++ stay := by unfold mvL; rw [if_neg om, List.append_nil]
structure MvI (q : QryE) (V A : List RowE) (i : Nat) (dn : Bool) : Prop where
 st : MvS q V A
 all : dn = true → ∀ w ∈ V, ∃ a ∈ A, a.row = w.row
 few : dn = false → i ≤ 40 ∨ (remV q.rev A V).length + i ≤ 80
 len : A.length ≤ i
theorem MvI.step {fs : List Fml} {q : QryE} {l V W A : List RowE} {i : Nat} (hI : MvI q W A i false) (h : YL fs q l V) (hk : ∀ w ∈ W, w ∈ V) (hl : 40 ≤ i → V = W) (hW : W.length ≤ 40) :
   let P := pgMv q A (remV q.rev A V); MvI q W (A ++ P.rows) (i + 1) P.done ∧ (P.done = false → P.token = lastT q (A ++ P.rows)) ∧ P.rows.length ≤ 1 := by
 intro P
 cases hR : remV q.rev A V with
 | nil =>
   have hP : P = ⟨[], [], true⟩ := by show pgMv q A (remV q.rev A V) = _; rw [hR]; rfl
   rw [hP]
   refine ⟨⟨by rw [List.append_nil]; exact hI.st, fun _ => by rw [List.append_nil]; exact mv_done hI.st hk hR, (fun h => by cases h), by rw [List.append_nil]; have := hI.len; omega⟩, (fun h => by cases h), osi⟩
 | cons y R =>
   have hP : P = ⟨[y], lastT q (A ++ [y]), false⟩ := by show pgMv q A (remV q.rev A V) = _; rw [hR]; rfl
   rw [hP]
   refine ⟨⟨mv_step h hI.st hk hR, (fun h => by cases h), fun _ => ?_, by rw [List.length_append]; have := hI.len; simp; omega⟩, fun _ => rfl, osi⟩
   rcases Nat.lt_or_ge i 40 with h1 | h1
   ·exact .inl om
   ·right
    have e := hl h1
    subst e
    have h2 := mv_less hR
    have h3 := remV_len q.rev A V
    show (remV q.rev (A ++ [y]) V).length + (i + 1) ≤ 80
    rcases hI.few rfl with h4 | h4 <;> omega
theorem NU50.eqs {P Q : Prop} (g : Imp P Q := by (try simp only [go_sem, seval, c1, c2, hszs, hags, hmos, hnum, hnua, hnum2, hszq, hagq, hmoq, hszp, hagp, hmop, f1, f2, f3, f4, f5, f6, b1, b2, b3, b4, b5, g1, g2, g3, g4, g5, g6, e1, e2, Nat.add_assoc, List.length_map, Int.toNat_natCast]); exact Pm) : Imp P Q := g
theorem NU50.sd {P : Prop} (g : P := by first | exact ⟨odc, .inr trivial, om, om⟩ | (intro _ h8; rw [h8]; rfl) | (intros; simp_all; done) | fail) : P := g
set_option maxRecDepth 100000 in
set_option maxHeartbeats 6400000 in
open NU50 NZ in
theorem JR (fs0 : List Fml) (hfs0 : fs0.length ≤ 1048576) (q0 : QryE) (hq : q0.fine) (stay : List RowE) (hst : Yh stay) (hs3 : 3 + stay.length ≤ 1048576) (turns : List (List RowE)) (htl : turns.length ≤ 1048576) (htu : ∀ y ∈ turns, Yh y ∧ 3 + stay.length + y.length ≤ 1048576) (H : Heap) (n : Nat) (hG : GOK 1 1 H n) :
   Ret prog 10 [Zi fs0, Zg q0, .sl 2 (stay.map Ze), .sl 1 (turns.map WA)] H n (.bool true) H n := by
 have hszs : ∀ f, (Zi f).sz = 1 := fun _ => rfl
 have hags : ∀ f, (Zi f).isAgg = true := fun _ => rfl
 have hmos : ∀ f, (Zi f).memOK = true := fun _ => rfl
 have hszq : ∀ q, (Zg q).sz = 10 := Z6
 have hagq : ∀ q, (Zg q).isAgg = true := fun _ => rfl
 have hmoq : ∀ q, (Zg q).memOK = true := fun _ => rfl
 have hnum : ∀ l, (Zu l).sz = 1 := fun _ => rfl
 have hnua : ∀ l, (Zu l).isAgg = false := fun _ => rfl
 have hnum2 : ∀ l, (Zu l).memOK = true := fun _ => rfl
 have hg1 := hG.gek
 have hg2 := hG.get
 have f1 : (n = n + 1) = False := osi
 have f2 : (n + 1 = n) = False := osi
 have f3 : (n = n + 2) = False := osi
 have f4 : (n + 1 = n + 2) = False := osi
 have f5 : (n + 2 = n) = False := osi
 have f6 : (n + 2 = n + 1) = False := osi
 have b1 := f1
 have b2 := f1
 have g1 := f1
 have g2 := f1
 have c1 := f1
 have c2 := f1
 have hszp : ∀ p, (pgAV p).sz = 3 := fun _ => rfl
 have hagp : ∀ p, (pgAV p).isAgg = true := fun _ => rfl
 have hmop : ∀ p, (pgAV p).memOK = true := fun _ => rfl
 have b3 := f1
 have b4 := f1
 have b5 := f1
 have g3 := f1
 have g4 := f1
 have g5 := f1
 have g6 := f1
 have e1 := f1
 have e2 := f1
 refine Ret.fin ?_
 refine fw func10 ntmps10 results10 ?_
 refine rg zs [2, 3, 4, 5] ?_
 refine ZQ [2, 3, 4, 5] (fun T' H' n' => T' = tl [(2, .sl 2 (stay.map Ze)), (3, .sl 1 (turns.map WA)), (4, .loc n 0 0 0 []), (5, .loc (n + 1) 0 0 0 [])] ∧ H' n = some (.arr 0 1 [Zi (schG fs0)]) ∧ H' (n + 1) = some (.arr 0 10 [Zg q0]) ∧ (∀ k, k < n → H' k = H k) ∧ n' = n + 2) ?_ ?_
 ·refine rk zs [2, 3, 4, 5, 26] fun K J => ?_
  refine ck func38 ((Ret.wk (args' := [Zi fs0, Zg qOne]) (Ul fs0 hfs0 qOne qOne_fine _ _) ⟨.refl _, wk_one, trivial⟩)) ?_
  apply J; clear J K
  refine Zb ?_ ?_ <;> intro hb
  ·have h18 : schG fs0 = twoF := by unfold schG; rw [if_neg (by rw [← qOne_qcE]; simpa using hb)]
   refine rk1 zs [2, 3, 4, 5] fun K J => ?_
   refine ck func14 ((Uc _ _)) ?_
   apply J; clear J K
   refine ns ?_
   refine ns ?_
   rw [h18]
   (repeat' apply And.intro) <;> first | rfl | (intro k hk; exact oh) | exact ohd
  have h18 : schG fs0 = fs0 := by unfold schG; rw [if_pos (by rw [← qOne_qcE]; simpa using hb)]
  refine ak ?_
  refine ns ?_
  rw [h18]
  (repeat' apply And.intro) <;> first | rfl | (intro k hk; exact oh) | exact ohd
 rintro T8 H8 n8 ⟨rfl, c1, c2, hlow8, rfl⟩
 obtain ⟨fs, hfsd⟩ : ∃ fs, fs = schG fs0 := ⟨_, rfl⟩
 have hfs : fs.length ≤ 1048576 := hfsd ▸ schG_len hfs0
 have hsc : Zv fs = 0 := hfsd ▸ schG_ok fs0
 rw [← hfsd] at c1
 have hrk := JF UB hst (by show 3 + stay.length ≤ _; omega)
 refine rk zs [2, 3, 4, 9] fun K J => ?_
 refine ck func13 ((c_law13_good fs hfs q0 hq)) ?_
 apply J; clear J K
 refine ZO (fun H' n' => H' n = some (.arr 0 1 [Zi fs]) ∧ H' (n + 2) = some (.arr 0 10 [Zg (XI fs q0)]) ∧ (∀ k, k < n → H' k = H k) ∧ n' = n + 3) ⟨ohx c1, ohd, fun k hk => ohx (hlow8 k hk), om⟩ fun H9 n9 ⟨c1, c2, hlow8, hn9⟩ => ?_
 subst hn9
 have hA := ask_of fs hsc hq (ZJ ++ stay)
 have hLk := neatE_ok (nf := fs.length) hrk
 have hL4 := neatE_len fs.length (ZJ ++ stay)
 have hkeep := fun i => allV_keep (q := XI fs q0) (t := Yv fs (XI fs q0)) (Nf fs.length stay turns i)
 have hAi := fun i => ask_of fs hsc hq (mvL stay turns i)
 obtain ⟨L, hL⟩ : ∃ L, L = Vj fs.length (ZJ ++ stay) := ⟨_, rfl⟩
 rw [← hL] at hA hLk hL4 hkeep
 have hVc := allV_cells (q := XI fs q0) (t := Yv fs (XI fs q0)) hLk
 have hVl := hA.len
 have hgf := Nr (fs := fs) hq
 obtain ⟨q, hqd⟩ : ∃ q, q = XI fs q0 := ⟨_, rfl⟩
 rw [← hqd] at hA hVc hVl hkeep hAi c2 hgf
 obtain ⟨V, hV⟩ : ∃ V, V = allV q (Yv fs q) L := ⟨_, rfl⟩
 have hVu : V.Pairwise fun a b => dirB q.rev a.row b.row := by rw [hV]; exact allV_up hA.up
 rw [← hV] at hA hVc hVl hkeep
 refine dx zs [2, 3, 4, 9, 10, 11] [.q, .q, .q, .w [0, 1, 2, 7], .m, .w [0, 1, 2, 7], .w [0, 1, 7], .q, .w [], .m, .q, .q, .q, .q] [0, 1, 2, 4, 7, 3, 5, 6, 8, 9, 10, 11, 12, 13] [0, 1, 2, 5, 3, 6, 7, 4, 8, 9, 10, 11, 12, 13] fun K J => ?_
 refine cK func17 (Ue _ _) ?_ ?_
 ·intro p H' n' hc; cases hc.1
 intro rr H1 n1 hc
 obtain ⟨hr, hp1, hlo1, hn1⟩ := hc
 cases hr
 have b1 : H1 n = some (.arr 0 1 [Zi fs]) := (hlo1 n om).trans c1
 have b2 : H1 (n + 2) = some (.arr 0 10 [Zg q]) := (hlo1 _ om).trans c2
 have g1 : H1 (n + 3) = some (.arr 3 2 (ZJ.map Ze)) := hp1
 refine nz ?_
 have hE : List.take 3 (List.map Ze ZJ) ++ List.map Ze stay = (ZJ ++ stay).map Ze := by rw [List.map_append]; rfl
 have hLn : 3 + stay.length = (ZJ ++ stay).length := by rw [List.length_append]; rfl
 rw [hE, hLn]
 refine Zo func16 rfl rfl rfl (Ret.frzK (args' := [Zi fs, .sl 2 ((ZJ ++ stay).map Ze)]) (n + 3) (Pk _ _ _) ⟨.refl _, Mo _, trivial⟩ (Ku fs hfs (ZJ ++ stay) hrk _ _)) ?_
 rw [← hL]
 refine nz ?_
 refine Zo func42 rfl rfl rfl (NW fs hfs q L V hA hLk hL4 [1000] odc _ _ (hG.on (fun k hk => by refine ohx ?_; rw [hlo1 k om]; exact hlow8 k hk) om)) ?_
 refine nz ?_
 apply J; clear J K
 refine Za fun K1 hK1 => ?_
 refine ZO (fun H' n' => H' n = some (.arr 0 1 [Zi fs]) ∧ H' (n + 2) = some (.arr 0 10 [Zg q]) ∧ (∀ k, k < n → H' k = H k) ∧ n + 3 ≤ n') ⟨ohx b1, ohx b2, fun k hk => by refine ohx ?_; rw [hlo1 k om]; exact hlow8 k hk, om⟩ fun H3 n3 ⟨b1, b2, hlow, hn3⟩ => ?_
 refine rg zs [2, 3, 4, 9, 10, 44] ?_
 refine Zb ?_ ?_ <;> intro hb
 ·exact absurd hb osi
 refine ak ?_
 apply hK1
 refine rg zs [2, 3, 4, 9, 10, 12] ?_
 refine rg zs [2, 3, 4, 9, 10, 12, 13] ?_
 refine Za fun K2 hK2 => ?_
 refine rg zs [2, 3, 4, 9, 10, 12, 13, 14] ?_
 refine Zy ?_
 refine Z8 12 2 rfl ?_
 refine Yp [2, 3, 4, 9, 10, 12, 13, 14] ?_
 refine ns ?_
 refine Zp (fun T' H' n' => ∃ (i ver : Nat) (A : List RowE) (dn : Bool) (tk : List UInt8) (mm : Int), i ≤ 90 ∧ MvI q V A i dn ∧ (dn = false → tk = lastT q A) ∧ T' = tl [(2, .sl 2 (stay.map Ze)), (3, .sl 1 (turns.map WA)), (4, .loc n 0 0 0 []), (9, .loc (n + 2) 0 0 0 []), (10, .sl 2 (V.map Ze)), (12, .osl n3 ver 0 A.length), (13, .bool dn), (14, .int .i64 i)] ∧ H' n = some (.arr 0 1 [Zi fs]) ∧ H' (n + 2) = some (.arr 0 10 [Zg { q with token := tk, rows := mm }]) ∧ H' n3 = some (.arr ver 2 (A.map Ze)) ∧ (∀ k, k < n → H' k = H k) ∧ n3 + 1 ≤ n') (fun T' _ _ => 90 - iv (T' 14)) ?_ ?_
 ·exact ⟨0, 0, [], false, [], q.rows, om, ⟨.nil _ _, (fun h => by cases h), fun _ => .inl om, Nat.le_refl _⟩, fun _ => rfl, rfl, ohx b1, by refine ohx ?_; rw [b2, show ({ q with token := [], rows := q.rows } : QryE) = q by rw [← hA.tok]], ohd, fun k hk => ohx (hlow k hk), by omega⟩
 rintro T1 H1 n1 ⟨i, ver, A, dn, tk, mm, hi, hI, htk, rfl, b1, b2, b3, hlow, hn1⟩
 refine Za fun K3 hK3 => ?_
 refine rg zs [2, 3, 4, 9, 10, 12, 13, 14, 50] ?_
 refine Zb ?_ ?_ <;> intro hb
 ·have h9 := Wt hb
  have hci : i < 90 := by have := of_decide_eq_true h9.1; omega
  obtain rfl : dn = false := by have := h9.2; revert this; cases dn <;> simp
  obtain rfl : tk = lastT q A := htk rfl
  have e1 : IntKind.i64.wrap ((i : Int) + 1) = ((i + 1 : Nat) : Int) := w1 om
  have hqf := mv_fine hA hI.st
  have hLi := mvL_ok hst htu hs3 i
  have hAs := hAi i
  have hstep := hI.step hAs (hkeep i) (fun h => by rw [mvL_late stay turns h, ← hL]; exact hV.symm) om
  have hpg := mv_page hAs hI.st
  have hrd : (ZM (qMv q A)).2.2 = 0 := by rw [Mi hA hI.st]; split <;> rfl
  have hAl := hI.len
  obtain ⟨p, hp⟩ : ∃ p, p = n1 := ⟨_, rfl⟩
  subst hp
  refine ak ?_
  apply hK3
  refine bk fun K4 hK4 => ?_
  refine Zf zs [2, 3, 4, 9, 10, 12, 14] fun K J => ?_
  try simp only [go_sem, seval, c1, c2, hszs, hags, hmos, hnum, hnua, hnum2, hszq, hagq, hmoq, hszp, hagp, hmop, f1, f2, f3, f4, f5, f6, b1, b2, b3, b4, b5, g1, g2, g3, g4, g5, g6, e1, e2, Nat.add_assoc, List.length_map, Int.toNat_natCast, Zg]
  repeat refine peel ?_
  apply J; clear J K
  refine WP (n + 2) (els := [Zg (qMv q A)]) (els' := [Zg (qMv q A)]) ohd ⟨.refl _, trivial⟩ ?_
  refine rk zs [2, 3, 4, 9, 10, 12, 14, 15] fun K J => ?_
  refine cK func17 (Ue _ _) ?_ ?_
  ·intro p H' n' hc; cases hc.1
  intro rr H5 n5 hc
  obtain ⟨hr, hp1, hlo5, hn5⟩ := hc
  cases hr
  have b1 : H5 n = some (.arr 0 1 [Zi fs]) := (hlo5 n om).trans (ohx b1)
  have b2 : H5 (n + 2) = some (.arr 0 10 [Zg (qMv q A)]) := (hlo5 _ om).trans ohd
  have b3 : H5 n3 = some (.arr ver 2 (A.map Ze)) := (hlo5 _ om).trans (ohx b3)
  have b4 : H5 p = some (.arr 3 2 (ZJ.map Ze)) := hp1
  have hlow : ∀ k, k < n → H5 k = H k := fun k hk => (hlo5 k om).trans (ohx (hlow k hk))
  have g1 : (n = p) = False := oz
  have g2 : (n + 2 = p) = False := oz
  have g3 : (n3 = p) = False := oz
  have g4 : (p = n3) = False := oz
  have g5 : (p = n + 2) = False := oz
  refine nz ?_
  apply J; clear J K
  refine ZQ [2, 3, 4, 9, 10, 12, 14, 15] (fun T' H' n' => ∃ ver' : Nat, T' = tl [(2, .sl 2 (stay.map Ze)), (3, .sl 1 (turns.map WA)), (4, .loc n 0 0 0 []), (9, .loc (n + 2) 0 0 0 []), (10, .sl 2 (V.map Ze)), (12, .osl n3 ver 0 A.length), (14, .int .i64 i), (15, .osl p ver' 0 (mvL stay turns i).length)] ∧ H' n = some (.arr 0 1 [Zi fs]) ∧ H' (n + 2) = some (.arr 0 10 [Zg (qMv q A)]) ∧ H' n3 = some (.arr ver 2 (A.map Ze)) ∧ H' p = some (.arr ver' 2 ((mvL stay turns i).map Ze)) ∧ (∀ k, k < n → H' k = H k) ∧ p + 1 ≤ n') ?_ ?_
  ·refine rg zs [2, 3, 4, 9, 10, 12, 14, 15, 64] ?_
   refine Zb ?_ ?_ <;> intro hb
   ·have h8 := Wt hb
    have h7 : i < turns.length ∧ i < 40 := ⟨by have := of_decide_eq_true h8.1; omega, by have := of_decide_eq_true h8.2; omega⟩
    have hn5' : nth (turns.map WA) i = WA (turns.getD i default) := Zx WA turns i h7.1
    have hmv : mvL stay turns i = ZJ ++ stay ++ turns.getD i default := by unfold mvL; rw [if_pos h7]
    have htb := (htu _ (YH turns h7.1)).2
    have hmvl : (mvL stay turns i).length = 3 + stay.length + (turns.getD i default).length := by rw [hmv, List.length_append, List.length_append]; rfl
    refine ZG zs [2, 3, 4, 9, 10, 12, 14, 15] fun K J => ?_
    try simp only [go_sem, seval, c1, c2, hszs, hags, hmos, hnum, hnua, hnum2, hszq, hagq, hmoq, hszp, hagp, hmop, f1, f2, f3, f4, f5, f6, b1, b2, b3, b4, b5, g1, g2, g3, g4, g5, g6, e1, e2, Nat.add_assoc, List.length_map, Int.toNat_natCast, hn5', WA]
    repeat (first | (refine And.intro ?_ ?_; · first | exact ⟨om, om⟩ | exact ⟨by (rw [List.length_append, List.length_map]; show _ ≤ 3 + _; omega), .inr trivial, by omega, by omega⟩) | refine peel ?_)
    apply J; clear J K
    refine ns ?_
    refine ns ?_
    first
    | (have hE : List.take (3 + stay.length) (List.take 3 (List.map Ze ZJ) ++ List.map Ze stay) ++ List.map Ze (turns.getD i default) = (mvL stay turns i).map Ze := by rw [hmv, List.take_of_length_le (by rw [List.length_append, List.length_map]; show 3 + _ ≤ _; omega), List.map_append, List.map_append]; rfl
       rw [hE, hmvl]; exact ⟨5, by rw [Nat.add_assoc], rfl, fun k hk => ohx (hlow k hk), om⟩)
   have h7 : ¬ (i < turns.length ∧ i < 40) := fun h => by rw [decide_eq_true (show (i : Int) < (turns.length : Int) by omega), decide_eq_true (show (i : Int) < 40 by omega)] at hb; exact absurd hb osi
   have hmv : mvL stay turns i = ZJ ++ stay := by unfold mvL; rw [if_neg h7, List.append_nil]
   have hmvl : (mvL stay turns i).length = 3 + stay.length := by rw [hmv, List.length_append]; rfl
   refine ak ?_
   refine ns ?_
   rw [hmvl]; exact ⟨4, rfl, by rw [hmv, List.map_append]; rfl, fun k hk => ohx (hlow k hk), om⟩
  rintro T7 H7 n7 ⟨ver', rfl, b1, b2, b3, b4, hlow, hn7⟩
  obtain ⟨Ln, hLn⟩ : ∃ Ln, Ln = Vj fs.length (mvL stay turns i) := ⟨_, rfl⟩
  have hLk2 := neatE_ok (nf := fs.length) hLi
  rw [← hLn] at hAs hstep hpg hLk2
  obtain ⟨P, hP⟩ : ∃ P, P = pgMv q A (remV q.rev A (allV q (Yv fs q) Ln)) := ⟨_, rfl⟩
  obtain ⟨pg1, pg2⟩ := hpg
  rw [← hP] at pg2
  simp only [← hP] at hstep
  obtain ⟨st1, st2, st3⟩ := hstep
  clear hP
  have hfo := from_ok (q := qMv q A) hLk2
  have g6 : (n3 = n7) = False := oz
  refine dx zs [2, 3, 4, 9, 10, 12, 14, 16, 17] [.q, .q, .m, .w [0], .w [], .m, .q, .q, .q, .q] [0, 1, 2, 3, 4, 5, 6, 7, 8, 9] [0, 1, 2, 3, 4, 5, 6, 7, 8, 9] fun K J => ?_
  refine Zo func16 rfl rfl rfl (Ret.frzK (args' := [Zi fs, .sl 2 ((mvL stay turns i).map Ze)]) p b4 ⟨.refl _, Mo _, trivial⟩ (Ku fs hfs (mvL stay turns i) hLi _ _)) ?_
  rw [← hLn]
  refine nz ?_
  refine Zo func15 rfl rfl rfl (Kv (qMv q A) hqf hrd Ln hLk2 (hG.on (fun k hk => ohx (hlow k hk)) om)) ?_
  refine nz ?_
  apply J; clear J K
  refine Za fun K5 hK5 => ?_
  refine rg zs [2, 3, 4, 9, 10, 12, 14, 16, 80] ?_
  refine Zb ?_ ?_ <;> intro hb
  ·exact absurd hb osi
  refine ak ?_
  apply hK5
  refine rk zs [2, 3, 4, 9, 10, 12, 14, 18, 19] fun K J => ?_
  refine Zt (args' := [Zi fs, Zg (qMv q A), .int .i64 5, .iface 52 (.loc n7 0 0 0 [])]) func18 rfl rfl rfl ((Xc fs hfs (qMv q A) hqf 5 (X0 (qMv q A) Ln) 0 hfo n7 ?_ ?_)) ?_ ?_
  ·exact hG.on (fun k hk => ohx (hlow k hk)) om
  ·refine ohx ?_; rfl
  rotate_left
  ·intro p H' n' hc; obtain ⟨_, _, hr⟩ := hc; cases hr
  intro rr H4 n4 hc
  obtain ⟨hn4, hlo4, hr⟩ := hc
  rw [pg1, pg2] at hr
  cases hr
  have b1 : H4 n = some (.arr 0 1 [Zi fs]) := (hlo4 _ om om).trans (ohx b1)
  have b2 : H4 (n + 2) = some (.arr 0 10 [Zg (qMv q A)]) := (hlo4 _ om om).trans (ohx b2)
  have b3 : H4 n3 = some (.arr ver 2 (A.map Ze)) := (hlo4 _ om om).trans (ohx b3)
  have hlow : ∀ k, k < n → H4 k = H k := fun k hk => (hlo4 k om om).trans (ohx (hlow k hk))
  have g1 : (n = n4) = False := oz
  have g2 : (n + 2 = n4) = False := oz
  have g3 : (n3 = n4) = False := oz
  have g4 : (n4 = n3) = False := oz
  have g5 : (n4 = n + 2) = False := oz
  have b5 : (n3 = n + 2) = False := oz
  have b4 : (n + 2 = n3) = False := oz
  refine nz ?_
  apply J; clear J K
  refine Za fun K6 hK6 => ?_
  refine rk zs [2, 3, 4, 9, 10, 12, 14, 18, 93] fun K J => ?_
  refine ck func20 ((Y4 _ _ _)) ?_
  apply J; clear J K
  refine Zb ?_ ?_ <;> intro hb
  ·exact absurd hb osi
  refine ak ?_
  apply hK6
  refine Zf zs [2, 3, 4, 9, 10, 12, 14, 18] fun K J => ?_
  try simp only [go_sem, seval, c1, c2, hszs, hags, hmos, hnum, hnua, hnum2, hszq, hagq, hmoq, hszp, hagp, hmop, f1, f2, f3, f4, f5, f6, b1, b2, b3, b4, b5, g1, g2, g3, g4, g5, g6, e1, e2, Nat.add_assoc, List.length_map, Int.toNat_natCast, pgAV]
  repeat (first | (refine And.intro ?_ ?_; · first | exact ⟨osi, .inr trivial, om, om⟩) | refine peel ?_)
  apply J; clear J K
  refine Zf zs [2, 3, 4, 9, 10, 12, 13, 14, 18] fun K J => ?_
  try simp only [go_sem, seval, c1, c2, hszs, hags, hmos, hnum, hnua, hnum2, hszq, hagq, hmoq, hszp, hagp, hmop, f1, f2, f3, f4, f5, f6, b1, b2, b3, b4, b5, g1, g2, g3, g4, g5, g6, e1, e2, Nat.add_assoc, List.length_map, Int.toNat_natCast, pgAV]
  repeat refine peel ?_
  apply J; clear J K
  refine ZG zs [2, 3, 4, 9, 10, 12, 13, 14] fun K J => ?_
  try simp only [go_sem, seval, c1, c2, hszs, hags, hmos, hnum, hnua, hnum2, hszq, hagq, hmoq, hszp, hagp, hmop, f1, f2, f3, f4, f5, f6, b1, b2, b3, b4, b5, g1, g2, g3, g4, g5, g6, e1, e2, Nat.add_assoc, List.length_map, Int.toNat_natCast, pgAV, Zg]
  repeat refine peel ?_
  apply J; clear J K
  refine ns ?_
  apply hK4
  refine rg1 zs [2, 3, 4, 9, 10, 12, 13, 14] ?_
  have hE : List.take A.length (List.map Ze A) ++ List.map Ze P.rows = List.map Ze (A ++ P.rows) := by rw [List.take_of_length_le osi, List.map_append]
  rw [hE, ← List.length_append]
  exact ⟨⟨i + 1, ver + 1, A ++ P.rows, P.done, P.token, 1, om, st1, st2, rfl, by rw [if_neg om], rfl, rfl, fun k hk => ohx (hlow k hk), om⟩, om⟩
 have hdn : dn = true := by
   cases dn with
   | true => rfl
   | false =>
     have h9 : ¬ i < 90 := fun h => by rw [decide_eq_true (show (i : Int) < 90 by omega)] at hb; exact absurd hb osi
     have := hI.few rfl
     omega
 subst hdn
 have hall := hI.all rfl
 have hAu := hI.st.up
 have hAl := hI.len
 refine ax ?_
 apply hK2
 refine Za fun K7 hK7 => ?_
 refine QW 12 n3 b3 (Mo A) ?_
 refine Yp [9, 10, 12, 13] ?_
 refine ns ?_
 refine ZO (fun H' n' => H' (n + 2) = some (.arr 0 10 [Zg { q with token := tk, rows := mm }]) ∧ (∀ k, k < n → H' k = H k) ∧ n + 3 ≤ n') ⟨ohx b2, fun k hk => ohx (hlow k hk), om⟩ fun H6 n6 ⟨b2, hlow, hn6⟩ => ?_
 refine rg zs [9, 10, 12, 13, 20] ?_
 refine Zy ?_
 refine Zp (fun T' H' n' => ∃ i : Nat, i ≤ A.length ∧ T' = tl [(9, .loc (n + 2) 0 0 0 []), (10, .sl 2 (V.map Ze)), (12, .sl 2 (A.map Ze)), (13, .bool true), (20, .int .i64 i)] ∧ H' = H6 ∧ n' = n6) (fun T' _ _ => A.length - iv (T' 20)) ?_ ?_
 ·exact ⟨0, Nat.zero_le _, rfl, rfl, rfl⟩
 rintro T1 H1 n1 ⟨i, hi, rfl, rfl, rfl⟩
 refine Za fun K8 hK8 => ?_
 have e1 : IntKind.i64.wrap ((i : Int) + 1) = ((i + 1 : Nat) : Int) := w1 om
 refine rg zs [9, 10, 12, 13, 20, 107] ?_
 refine Zb ?_ ?_ <;> intro hb
 ·have hci : i + 1 < A.length := ott
  have hna : nth (A.map Ze) i = Ze (A.getD i default) := Zx Ze A i om
  have hnb : nth (A.map Ze) (i + 1) = Ze (A.getD (i + 1) default) := Zx Ze A _ hci
  have hda : dirB q.rev (A.getD i default).row (A.getD (i + 1) default).row := by
    have := List.pairwise_iff_getElem.1 hAu i (i + 1) om hci om
    simpa [List.getD, hci, show i < A.length by omega] using this
  refine ak ?_
  apply hK8
  refine bk fun K9 hK9 => ?_
  refine YS rfl zs [9, 10, 12, 13, 20, 142] [.m, .m, .q, .q, .q, .q, .m, .m, .q, .q, .q, .q, .q, .q, .m, .m, .m, .q, .q, .q, .q, .m, .m, .q, .q, .q, .q, .q, .q, .q, .q, .q, .q] [0, 1, 2, 3, 4, 5, 6, 7, 8, 9, 10, 11, 12, 13, 14, 15, 16, 17, 18, 19, 20, 21, 22, 23, 24, 25, 26, 27, 28, 29, 30, 31, 32] [0, 1, 2, 3, 4, 5, 6, 7, 8, 9, 10, 11, 12, 13, 14, 15, 16, 17, 18, 19, 20, 21, 22, 23, 24, 25, 26, 27, 28, 29, 30, 31, 32] (by kernel_rfl) (fun _ _ _ _ _ h => h) fun K J => ?_
  try simp only [go_sem, seval, c1, c2, hszs, hags, hmos, hnum, hnua, hnum2, hszq, hagq, hmoq, hszp, hagp, hmop, f1, f2, f3, f4, f5, f6, b1, b2, b3, b4, b5, g1, g2, g3, g4, g5, g6, e1, e2, Nat.add_assoc, List.length_map, Int.toNat_natCast, hna, hnb, Ze, Zg]
  repeat (first | (refine And.intro ?_ ?_; · first | exact Yl _ | (intro _; exact Yl _) | exact ⟨om, om⟩ | (intro _; exact ⟨om, om⟩) | (intro _ h8; rw [h8]; rfl)) | refine peel ?_)
  apply J; clear J K
  refine Zb ?_ ?_ <;> intro hb
  ·have h142 : False := by
     simp only [Zq] at hb
     have hne : ¬ (A.getD i default).row = (A.getD (i + 1) default).row := fun e => by rw [e] at hda; exact QF hda
     rw [(X5 (A.getD i default).row (A.getD (i + 1) default).row).2, beq_eq_false_iff_ne.2 hne] at hb
     generalize (A.getD i default).row = a at hb hda hne
     generalize (A.getD (i + 1) default).row = b at hb hda hne
     unfold dirB at hda
     cases hr : q.rev
     ·rw [hr] at hb hda
      simp only [Bool.false_eq_true, if_false] at hda
      simp [hda] at hb
     ·rw [hr] at hb hda
      simp only [if_true] at hda
      have := NH.1 hda
      simp [show ¬ Lib.compareBytes a b < 0 by omega] at hb
   exact h142.elim
  refine ak ?_
  apply hK9
  refine rg1 zs [9, 10, 12, 13, 20] ?_
  exact ⟨⟨i + 1, om, rfl⟩, om⟩
 refine ax ?_
 apply hK7
 refine rg zs [10, 12, 13, 21] ?_
 refine Za fun K10 hK10 => ?_
 refine rg zs [10, 12, 13, 21, 22] ?_
 refine Zy ?_
 refine Zp (fun T' H' n' => ∃ i k : Nat, i ≤ A.length ∧ k ≤ V.length ∧ (k < V.length → ∀ j, j < i → dirB q.rev (A.getD j default).row (V.getD k default).row) ∧ T' = tl [(10, .sl 2 (V.map Ze)), (12, .sl 2 (A.map Ze)), (13, .bool true), (21, .int .i64 k), (22, .int .i64 i)] ∧ H' = H1 ∧ n' = n1) (fun T' _ _ => A.length - iv (T' 22)) ?_ ?_
 ·exact ⟨0, 0, Nat.zero_le _, Nat.zero_le _, fun _ j hj => om, rfl, rfl, rfl⟩
 rintro T1 H1 n1 ⟨i, k, hi, hk, hbe, rfl, rfl, rfl⟩
 refine Za fun K11 hK11 => ?_
 refine rg zs [10, 12, 13, 21, 22, 146] ?_
 refine Zb ?_ ?_ <;> intro hb
 ·have hci : i < A.length := ott
  have hna : nth (A.map Ze) i = Ze (A.getD i default) := Zx Ze A i hci
  have e1 : IntKind.i64.wrap ((i : Int) + 1) = ((i + 1 : Nat) : Int) := w1 om
  have e2 : IntKind.i64.wrap ((k : Int) + 1) = ((k + 1 : Nat) : Int) := w1 om
  refine ak ?_
  apply hK11
  refine bk fun K12 hK12 => ?_
  rcases Nat.lt_or_ge k V.length with h34 | h34
  ·have hnv : nth (V.map Ze) k = Ze (V.getD k default) := Zx Ze V k h34
   have hd34 : decide ((k : Int) < (V.length : Int)) = true := decide_eq_true om
   refine YS rfl zs [10, 12, 13, 21, 22, 165] [.m, .m, .q, .q, .m, .m, .m, .q, .q, .q, .m, .m, .q, .q, .q, .c, .q] [0, 1, 2, 3, 4, 5, 6, 7, 8, 9, 10, 11, 12, 13, 14, 15, 16] [0, 1, 2, 3, 4, 5, 6, 7, 8, 9, 10, 11, 12, 13, 14, 15, 16] (by kernel_rfl) (fun _ _ _ _ _ h => h) fun K J => ?_
   try simp only [go_sem, seval, c1, c2, hszs, hags, hmos, hnum, hnua, hnum2, hszq, hagq, hmoq, hszp, hagp, hmop, f1, f2, f3, f4, f5, f6, b1, b2, b3, b4, b5, g1, g2, g3, g4, g5, g6, e1, e2, Nat.add_assoc, List.length_map, Int.toNat_natCast, hna, hnv, hd34, Ze]
   repeat (first | (refine And.intro ?_ ?_; · first | (intro _; exact ⟨om, om⟩)) | refine peel ?_)
   refine ZY func26 rfl rfl rfl (fun _ n => (U9 (A.getD i default).row (V.getD k default).row _ _)) ?_
   try simp only [go_sem, seval, c1, c2, hszs, hags, hmos, hnum, hnua, hnum2, hszq, hagq, hmoq, hszp, hagp, hmop, f1, f2, f3, f4, f5, f6, b1, b2, b3, b4, b5, g1, g2, g3, g4, g5, g6, e1, e2, Nat.add_assoc, List.length_map, Int.toNat_natCast, hna, hnv, hd34, Ze]
   repeat (first | (refine And.intro ?_ ?_; · first | (intros; simp_all; done)) | refine peel ?_)
   apply J; clear J K
   refine Zb ?_ ?_ <;> intro hb
   ·have hfi := (mv_find hAu hVu hall hci h34 (hbe h34)).2 osb
    refine rg1 zs [10, 12, 13, 21, 22] ?_
    apply hK12
    refine rg1 zs [10, 12, 13, 21, 22] ?_
    exact ⟨⟨i + 1, k + 1, om, om, hfi, rfl⟩, om⟩
   have hfi := (mv_find hAu hVu hall hci h34 (hbe h34)).1 osb
   refine ak ?_
   apply hK12
   refine rg1 zs [10, 12, 13, 21, 22] ?_
   exact ⟨⟨i + 1, k, om, om, fun _ => hfi, rfl⟩, om⟩
  ·have hnv : nth (V.map Ze) k = .junk := by simp [nth, List.getD, h34]
   have hd34 : decide ((k : Int) < (V.length : Int)) = false := decide_eq_false om
   refine YS rfl zs [10, 12, 13, 21, 22, 165] [.m, .m, .q, .q, .m, .m, .m, .q, .q, .q, .m, .m, .q, .q, .q, .c, .q] [0, 1, 2, 3, 4, 5, 6, 7, 8, 9, 10, 11, 12, 13, 14, 15, 16] [0, 1, 2, 3, 4, 5, 6, 7, 8, 9, 10, 11, 12, 13, 14, 15, 16] (by kernel_rfl) (fun _ _ _ _ _ h => h) fun K J => ?_
   try simp only [go_sem, seval, c1, c2, hszs, hags, hmos, hnum, hnua, hnum2, hszq, hagq, hmoq, hszp, hagp, hmop, f1, f2, f3, f4, f5, f6, b1, b2, b3, b4, b5, g1, g2, g3, g4, g5, g6, e1, e2, Nat.add_assoc, List.length_map, Int.toNat_natCast, hna, hnv, hd34, Ze]
   repeat (first | (refine And.intro ?_ ?_; · first | (intro _; exact ⟨om, om⟩) | (intros; simp_all; done)) | refine peel ?_)
   refine ZY (r := .bool false) func26 rfl rfl rfl (fun hg => absurd hg osi) ?_
   try simp only [go_sem, seval, c1, c2, hszs, hags, hmos, hnum, hnua, hnum2, hszq, hagq, hmoq, hszp, hagp, hmop, f1, f2, f3, f4, f5, f6, b1, b2, b3, b4, b5, g1, g2, g3, g4, g5, g6, e1, e2, Nat.add_assoc, List.length_map, Int.toNat_natCast, hna, hnv, hd34, Ze]
   repeat (first | (refine And.intro ?_ ?_; · first | (intros; simp_all; done)) | refine peel ?_)
   apply J; clear J K
   refine Zb ?_ ?_ <;> intro hb
   ·exact absurd hb osi
   refine ak ?_
   apply hK12
   refine rg1 zs [10, 12, 13, 21, 22] ?_
   exact ⟨⟨i + 1, k, om, om, fun h => om, rfl⟩, om⟩
 have hci : i = A.length := otf
 subst hci
 have hk2 := mv_all hall hbe
 obtain rfl : k = V.length := om
 refine ax ?_
 apply hK10
 refine rk zs [8] fun K J => ?_
 refine cg func31 (fun _ => (Mc _ _ (hG.on (fun k hk => hlow k hk) om))) ?_
 apply J; clear J K
 refine ar ?_
 exact ⟨_, rfl, fun k hk => hlow k hk, Frz.eq osi trivial⟩
end Go.Proofs.YtkmkbndcekklmaaGreatDoor