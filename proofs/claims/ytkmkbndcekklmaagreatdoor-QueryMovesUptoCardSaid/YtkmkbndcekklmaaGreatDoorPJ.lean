/- Own layer: a law's source of rows, walked. Of the program; no condition. -/
import Derived.Test.YtkmkbndcekklmaaGreatDoorPF
import Derived.Test.YtkmkbndcekklmaaGreatDoorPI
import Derived.Test.YtkmkbndcekklmaaGreatDoorPD
import Derived.Test.YtkmkbndcekklmaaGreatDoorPE
import Derived.Test.YtkmkbndcekklmaaGreatDoorPG
import Derived.Lib.LaidTab
import Derived.Test.YtkmkbndcekklmaaGreatDoorPH
set_option linter.unusedSimpArgs false
set_option linter.unusedVariables false
set_option maxRecDepth 10000
namespace Go.Proofs.YtkmkbndcekklmaaGreatDoor
open Go Go.Sx Go.Rt Go.Proofs Tryz
theorem NC10.eqs {P Q : Prop} (g : Imp P Q := by (try simp only [go_sem, seval, List.length_map]); exact Pm) : Imp P Q := g
open NC10 NY in
theorem o_law13_part (b : List UInt8) (hb : b.length ≤ 1099511627776) (H : Heap) (n : Nat) : Ret prog 23 [bys b] H n (.osl n 1 0 b.length) (H.put n (some (.arr 1 1 (b.map Zd)))) (n + 1) := by
 have h9 := Qz b hb 0 b.length (Nat.zero_le _) (Nat.le_refl _) H n
 exact kbY
theorem NC11.eqs {P Q : Prop} (g : Imp P Q := by (try simp only [go_sem, seval, List.length_map, hE, Option.getD_some, Option.getD_none, Int.toNat_natCast]); exact Pm) : Imp P Q := g
theorem NC11.sd {P : Prop} (g : P := by first | exact ⟨Nat.le_refl _, .inr trivial, om, om⟩ | exact ⟨rfl, by (simp [AV.sz, AV.memOK]; first | done | fail)⟩ | fail) : P := g
open NC11 NZ in
theorem UY (b : List UInt8) (hb : b.length ≤ 1099511627776) (H : Heap) (n : Nat) : Ret prog 65 [bys b] H n (.tup [.osl n 2 0 b.length, .osl n 2 0 (b.length + 5)]) (H.put n (some (VV (n, b)))) (n + 1) := by
 have hE : List.take b.length (List.map Zd b) = List.map Zd b := List.take_of_length_le osi
 refine fw func65 ntmps65 results65 ?_
 refine kcu ?_
 refine rc zs [0, 4] func23 ((o_law13_part b hb _ _)) ?_
 refine rg zs [2, 3] ?_
 refine ar ?_
 exact ⟨by rw [Nat.sub_zero], by unfold VV; rw [List.map_append]; rfl⟩
def KA (rows : List RowE) (err : Int) (ks kw kt lo m : Nat) (kb : List (Nat × List UInt8)) (tk : List Nat) (H : Heap) (n : Nat) (res : ARes) (H' : Heap) (n' : Nat) : Prop :=
 n ≤ n' ∧ (∀ k, k < n → k ≠ ks → k ≠ kw → k ≠ kt → H' k = H k) ∧
 if m < rows.length then ∃ k1 k2 v2 js vw vt kb2 tels tk2, res = .val (.tup [.agg [.osl k1 2 0 (rows.getD m default).row.length, .osl k2 v2 0 (rows.getD m default).cells.length], .bool true, .int .i64 0]) ∧ Own H' (.agg [.osl k1 2 0 (rows.getD m default).row.length, .osl k2 v2 0 (rows.getD m default).cells.length]) (Ze (rows.getD m default)) js ∧ (∀ k ∈ js, n ≤ k ∧ k < n') ∧ SrcS rows err ks kw kt lo (m + 1) vw vt kb2 tels tk2 H' n' ∧ (∀ k ∈ tk2, k ∈ tk ∨ n ≤ k) ∧ tels.length ≤ m + 1 ∧ kb2.length ≤ kb.length + 1 + 2 * (rows.getD m default).cells.length
 else ∃ vw vt tels, res = .val (.tup [.agg [.nilsl, .nilsl], .bool false, .int .i64 err]) ∧ SrcS rows err ks kw kt lo (m + 1) vw vt kb tels tk H' n' ∧ tels.length ≤ m + 1
theorem NC12.eqs {P Q : Prop} (g : Imp P Q := by (try simp only [go_sem, seval, hO, g1, g2, g3, e1, e2, hrs, hra, hrm, hcs, hca, hcm, hnth, hW, hr1, hnc, hx1, hc1, ho1, i1, i2, i3, i4, i5, i6, i7, i8, j1, j2, j3, j4, j5, j6, j7, j8, hn5, hn6, hn7, hn8, hKt, hT1, Nat.add_assoc, g13, g4, g5, g6, g7, g8, g9, g10, g11, g12, f2, f3, f4, f5, List.length_map, Int.toNat_natCast, Ze, Zr]); exact Pm) : Imp P Q := g
theorem NC12.sd {P : Prop} (g : P := by first | exact ⟨Nat.le_refl _, .inr trivial, by have := hN.le; omega, by have := hN.le; omega⟩ | exact ⟨rfl, by (simp [AV.sz, AV.memOK]; first | done | fail)⟩ | exact ⟨rfl, by (simp [AV.sz, AV.szs, AV.memOK]; first | done | fail)⟩ | exact ⟨Nat.le_refl _, .inr trivial, om, om⟩ | fail) : P := g
set_option maxHeartbeats 6400000 in
open NC12 NZ in
theorem JU (rows : List RowE) (err : Int) (hrl : rows.length ≤ 1048576) (hrb : ∀ x ∈ rows, x.row.length ≤ 1099511627776 ∧ x.cells.length ≤ 1048576 ∧ ∀ c ∈ x.cells, c.qual.length ≤ 1099511627776 ∧ c.value.length ≤ 1099511627776) (ks kw kt lo m vw vt : Nat) (kb : List (Nat × List UInt8)) (tels : List AV) (tk : List Nat) (H : Heap) (n : Nat)
   (h : SrcS rows err ks kw kt lo m vw vt kb tels tk H n) (hm : m ≤ 2097152) (htl : tels.length ≤ m) (hkl : kb.length ≤ 4398046511104) : Zn prog 187 [.loc ks 0 0 0 []] H n (KA rows err ks kw kt lo m kb tk H n) := by
 have hO := h.ho
 unfold Uz at hO
 obtain ⟨d1, d2, d3, d4, d5, d6, d7⟩ := h.d
 have hrs : ∀ r, (Ze r).sz = 2 := Qr
 have hra : ∀ r, (Ze r).isAgg = true := fun _ => rfl
 have hrm : ∀ r, (Ze r).memOK = true := fun _ => rfl
 have hcs : ∀ c, (Zr c).sz = 4 := XK
 have hca : ∀ c, (Zr c).isAgg = true := fun _ => rfl
 have hcm : ∀ c, (Zr c).memOK = true := fun _ => rfl
 have g1 : (ks = n) = False := oz
 have g2 : (ks = n + 1) = False := oz
 have g3 : (n = ks) = False := oz
 have e1 : IntKind.i64.wrap ((m : Int) + 1) = ((m + 1 : Nat) : Int) := w1 om
 have e2 : IntKind.i64.wrap (((m + 1 : Nat) : Int) - 1) = (m : Int) := by rw [w64 om om]; omega
 have hnth := d7
 have hW := d7
 have hr1 := d7
 have hnc := d7
 have hx1 := d7
 have hc1 := d7
 have ho1 := d7
 have i1 := d7
 have i2 := d7
 have i3 := d7
 have i4 := d7
 have i5 := d7
 have i6 := d7
 have i7 := d7
 have i8 := d7
 have j1 := d7
 have j2 := d7
 have j3 := d7
 have j4 := d7
 have j5 := d7
 have j6 := d7
 have j7 := d7
 have j8 := d7
 have hn5 := d7
 have hn6 := d7
 have hn7 := d7
 have hn8 := d7
 have hKt := d7
 have hT1 := d7
 have g4 : (kw = ks) = False := oz
 have g13 : (ks = kw) = False := oz
 have g5 : (kw = n) = False := oz
 have g6 : (kw = n + 1) = False := oz
 have g7 : (kw = n + 2) = False := oz
 have g8 : (kw = n + 3) = False := oz
 have g9 : (kw = n + 4) = False := oz
 have g10 : (ks = n + 2) = False := oz
 have g11 : (ks = n + 3) = False := oz
 have g12 : (ks = n + 4) = False := oz
 have f2 : (n + 2 = n + 3) = False := osi
 have f3 : (n + 2 = n + 4) = False := osi
 have f4 : (n + 1 = n + 2) = False := osi
 have f5 : (n + 1 = n) = False := osi
 refine fw func187 ntmps187 results187 ?_
 refine rg zs [0, 2] ?_
 refine rg zs [0, 2] ?_
 refine Za fun K1 hK1 => ?_
 refine dx zs [0, 2, 31] [.m, .q, .q, .q, .m, .q, .q, .q, .q, .q] [0, 1, 2, 3, 4, 5, 6, 7, 8, 9] [0, 1, 2, 3, 4, 5, 6, 7, 8, 9] fun K V => ?_
 apply V; clear V K
 refine Zb ?_ ?_ <;> intro hb
 ·have hge : ¬ m < rows.length := ott
  refine dx zs [2, 3, 4] [.q, .m, .q, .q, .q, .w [2, 3, 4], .q, .q] [0, 1, 2, 3, 4, 5, 6, 7] [0, 1, 2, 3, 4, 5, 6, 7] fun K V => ?_
  apply V; clear V K
  refine ar ?_
  unfold KA
  first
  | (rw [if_neg hge]
     refine ⟨om, fun k h1 h2 h3 h4 => ?_, vw, vt, tels, rfl, h.past hge (fun k h1 h2 => ?_) ?_ om, om⟩
     ·exact oh
     ·exact oh
     ·rw [Pi _ _ om, Pk]; rfl)
 have hlt : m < rows.length := otf
 obtain ⟨r, hr⟩ : ∃ r, r = rows.getD m default := ⟨_, rfl⟩
 have hnth : nth (rows.map Ze) m = Ze r := hr ▸ Zx Ze rows m hlt
 have hrb1 : r.row.length ≤ 1099511627776 ∧ r.cells.length ≤ 1048576 ∧ ∀ c ∈ r.cells, c.qual.length ≤ 1099511627776 ∧ c.value.length ≤ 1099511627776 := hr ▸ hrb _ (YH rows hlt)
 have htk := Q9 rows hlt
 refine ak ?_
 apply hK1
 refine dx zs [0, 2, 5] [.m, .q, .q, .q, .m, .q, .q, .q, .q, .q, .q, .w [1, 2, 3, 5, 6, 7, 8, 9, 10], .w []] [0, 1, 2, 3, 4, 5, 6, 7, 8, 9, 10, 11, 12] [0, 1, 2, 3, 4, 5, 6, 7, 8, 9, 10, 11, 12] fun K V => ?_
 apply V; clear V K
 refine rg zs [0, 2, 5, 6] ?_
 refine Yq (n + 2) 4 (ver := 0) (e := 2) (els := [.agg [.nilsl, .nilsl]]) (els' := [.agg [.nilsl, .osl (n + 3) 0 0 0]]) (by simp [Heap.put]) ⟨Adp.agg ⟨.refl _ _, Adp.nilsl _, trivial⟩, trivial⟩ ?_
 refine rc zs [0, 2, 5, 6, 7, 8] func65 ((UY r.row hrb1.1 _ _)) ?_
 refine rg zs [0, 2, 5, 6, 8] ?_
 have hW := h.hw
 refine rg zs [0, 2, 5, 6] ?_
 refine Za fun K2 hK2 => ?_
 refine rg zs [0, 2, 5, 6, 9] ?_
 refine Zy ?_
 refine ZO (fun H' n' => NxS rows err ks kw kt m r H n vt kb tels 0 (vw + 1) 0 (kb ++ [(n + 4, r.row)]) [] [] H' n' ∧ H' n = some (.arr 0 2 [.agg [.nilsl, .nilsl]])) ?_ fun H3 n3 ⟨hN, hT⟩ => ?_
 ·have hkb : ∀ p ∈ kb, lo ≤ p.1 ∧ p.1 < n := fun p hp => h.told.lo _ (h.wk p hp)
  rw [List.take_of_length_le osi]
  refine ⟨⟨?_, ?_, ?_, ?_, ?_, Pile.nil _ _ _, ?_, fun p hp => ?_, fun p hp => ?_, ?_, fun k h1 h2 h3 => ?_, om, ⟨Nat.le_refl _, osi⟩, fun p hp => (hkb p hp).2, fun p hp => (by rcases List.mem_append.1 hp with h1 | h1; exact h.wl p h1; rw [List.mem_singleton.1 h1]; exact hrb1.1)⟩, ?_⟩
  ·rw [Pk]; unfold Uz; rw [List.length_append]; rfl
  ·refine ohx ?_; rfl
  ·refine ohx ?_; rfl
  ·exact oh
  ·exact oh
  ·refine ohx ?_; rw [List.map_append]; rfl
  ·rcases List.mem_append.1 hp with h1 | h1
   ·have := hkb p h1; refine ohx ?_; exact h.wb p h1
   ·rw [List.mem_singleton.1 h1]; (try simp only [Pj]); (repeat first | rw [if_pos rfl] | rw [if_pos trivial] | rw [if_neg om])
  ·rcases List.mem_append.1 hp with h1 | h1
   ·exact .inl h1
   ·rw [List.mem_singleton.1 h1]; exact .inr (.inl rfl)
  ·rw [List.map_append]; refine List.nodup_append.2 ⟨h.wd, osi, fun a ha b hb e => ?_⟩; obtain ⟨p, h3, rfl⟩ := List.mem_map.1 ha; have := hkb p h3; simp at hb; omega
  ·exact oh
  ·exact oh
 refine Zp (fun T' H' n' => ∃ (i vw2 vc : Nat) (kb2 : List (Nat × List UInt8)) (els : List AV) (kcs : List Nat), i ≤ r.cells.length ∧ T' = tl [(0, .loc ks 0 0 0 []), (2, .loc n 0 0 0 []), (5, .loc (n + 1) 0 0 0 []), (6, .loc (n + 2) 0 0 0 []), (9, .int .i64 i)] ∧ NxS rows err ks kw kt m r H n vt kb tels i vw2 vc kb2 els kcs H' n' ∧ H' n = some (.arr 0 2 [.agg [.nilsl, .nilsl]])) (fun T' _ _ => r.cells.length - iv (T' 9)) ?_ ?_
 ·exact ⟨0, _, _, _, _, _, Nat.zero_le _, rfl, hN, hT⟩
 rintro T1 H1 n1 ⟨i, vw2, vc, kb2, els, kcs, hi, rfl, hN, hT⟩
 have hr1 := hN.hr
 unfold Ze at hr1
 have hx1 := hN.hx
 have hc1 := hN.hc
 have ho1 := hN.ho
 unfold Uz at ho1
 have hW := hN.hw
 have hn1 := hN.lt
 have i1 : (n + 2 = n1) = False := oz
 have i2 : (n + 3 = n1) = False := oz
 have i3 : (ks = n1) = False := oz
 have i4 : (kw = n1) = False := oz
 refine Za fun K3 hK3 => ?_
 refine rg zs [0, 2, 5, 6, 9, 71] ?_
 refine Zb ?_ ?_ <;> intro hb
 ·have hci : i < r.cells.length := ott
  have hnc : nth (r.cells.map Zr) i = Zr (r.cells.getD i default) := Zx Zr r.cells i hci
  have hct := Q9 r.cells hci
  have hcb := hrb1.2.2 _ (YH r.cells hci)
  generalize r.cells.getD i default = c at *
  have i5 : (n + 2 = n1 + 1) = False := oz
  have i6 : (n + 3 = n1 + 1) = False := oz
  have i7 : (ks = n1 + 1) = False := oz
  have i8 : (kw = n1 + 1) = False := oz
  have j1 : (ks = n1 + 2) = False := oz
  have j2 : (kw = n1 + 2) = False := oz
  have j3 : (n + 2 = n1 + 2) = False := oz
  have j4 : (n + 3 = n1 + 2) = False := oz
  have j5 : (n + 2 = ks) = False := oz
  have j6 : (n + 3 = ks) = False := oz
  have j7 : (n + 2 = kw) = False := oz
  have j8 : (n + 3 = kw) = False := oz
  have hn5 : (n1 = n1 + 1) = False := osi
  have hn6 : (n1 = n1 + 2) = False := osi
  have hn7 : (n1 = ks) = False := oz
  have hn8 : (n1 = kw) = False := oz
  have e1 : IntKind.i64.wrap ((i : Int) + 1) = ((i + 1 : Nat) : Int) := w1 om
  refine ak ?_
  apply hK3
  refine bk fun K4 hK4 => ?_
  refine rg zs [0, 2, 5, 6, 9, 10] ?_
  refine rc zs [0, 2, 5, 6, 9, 10, 11, 12] func65 ((UY c.qual hcb.1 _ _)) ?_
  refine rc zs [0, 2, 5, 6, 9, 10, 11, 12, 13, 14] func65 ((UY c.value hcb.2 _ _)) ?_
  refine rg zs [0, 2, 5, 6, 9, 10, 11, 13] ?_
  refine rg1 zs [0, 2, 5, 6, 9] ?_
  apply hK4
  refine rg1 zs [0, 2, 5, 6, 9] ?_
  rw [List.take_of_length_le (Nat.le_refl els.length), List.take_of_length_le (show (kb2.map Vv).length ≤ kb2.length by simp)]
  refine ⟨⟨i + 1, vw2 + 1, vc + 1, _, _, _, om, rfl, hN.add hct hcb ⟨om, om, om⟩ (k1 := n1 + 1) (k2 := n1 + 2) ⟨om, om, om, om, om⟩ (fun k h1 h2 h3 h4 h5 => ?_) ?_ ?_ ?_ ?_ ?_ ?_, ?_⟩, om⟩
  ·exact oh
  ·exact oh
  ·exact oh
  ·refine ohx ?_; rfl
  ·refine ohx ?_; rfl
  ·exact oh
  ·exact oh
  ·refine ohx ?_; exact hT
 have hci : i = r.cells.length := otf
 have hKt : H1 kt = some (.arr vt 2 tels) := (hN.low kt om om om).trans h.ht
 have j4 : (n = kt) = False := oz
 have hT1 := hT
 have j1 : (ks = kt) = False := oz
 have j2 : (n + 2 = kt) = False := oz
 have j3 : (n + 2 = ks) = False := oz
 refine ax ?_
 apply hK2
 refine dx zs [2, 6] [.m, .m, .q, .q, .q, .q, .q, .w [], .q, .q, .w []] [0, 1, 2, 3, 4, 5, 6, 7, 8, 9, 10] [0, 1, 2, 3, 4, 5, 6, 7, 8, 9, 10] fun K V => ?_
 apply V; clear V K
 refine rg zs [2, 3, 4] ?_
 refine ar ?_
 unfold KA
 first
 | (rw [if_pos hlt, ← hr]
    rw [List.take_of_length_le (Nat.le_refl tels.length)]
    subst hci
    have hel : els.length = r.cells.length := by have := hN.hp.own.len; rw [List.length_map, List.take_of_length_le (Nat.le_refl _)] at this; exact this
    have hta : KH r n vc els.length = .agg [.osl (n + 4) 2 0 r.row.length, .osl (n + 3) vc 0 r.cells.length] := by rw [hel]; rfl
    refine ⟨om, fun k h1 h2 h3 h4 => ?_, n + 4, n + 3, vc, (n + 4) :: (n + 3) :: kcs, vw2, vt + 1, kb2, tels ++ [KH r n vc els.length], tk ++ ((n + 4) :: (n + 3) :: kcs), by rw [← hta]; rfl, ?_, ?_, hN.done h (hr ▸ htk) (fun k h1 h2 h3 h4 => ?_) (Nat.le_refl _) ?_ ?_, fun k hk => ?_, by rw [List.length_append]; simp; omega, by have := hN.le; omega⟩
    ·refine ohx ?_; exact hN.low k h1 h2 h3
    ·rw [← hta]; exact (hN.own (fun k a b => oh)).1
    ·intro k hk; have := (hN.own (H2 := H1) (fun _ _ _ => rfl)).2.2 k hk; omega
    ·exact oh
    ·refine ohx ?_; rfl
    ·refine ohx ?_; rfl
    ·rcases List.mem_append.1 hk with h9 | h9
     ·exact .inl h9
     ·have := (hN.own (H2 := H1) (fun _ _ _ => rfl)).2.2 k h9; exact .inr om)
end Go.Proofs.YtkmkbndcekklmaaGreatDoor
namespace Go.Rt
open Go Go.Sx
structure COK {α : Type} (c : α → α → Int) : Prop where
 anti : ∀ a b, c a b < 0 ↔ 0 < c b a
 tr : ∀ a b d, c a b ≤ 0 → c b d ≤ 0 → c a d ≤ 0
section
variable {α : Type} {c d : α → α → Int}
theorem COK.zs (h : COK c) {a b : α} (h0 : c a b = 0) : c b a = 0 := by
 exact kcM
theorem COK.neg (h : COK c) {a b : α} (h0 : c a b ≤ 0) : 0 ≤ c b a := by
 exact kcM
theorem COK.pos (h : COK c) {a b : α} (h0 : 0 ≤ c a b) : c b a ≤ 0 := by
 exact kcM
theorem COK.lt_le (h : COK c) {a b e : α} (h1 : c a b < 0) (h2 : c b e ≤ 0) : c a e < 0 := by
 have h3 := h.tr a b e om h2
 rcases Int.lt_or_eq_of_le h3 with h4 | h4
 ·exact h4
 ·have h5 := h.zs h4
  have h6 := h.tr b e a h2 om
  have := (h.anti a b).1 h1; omega
theorem COK.le_lt (h : COK c) {a b e : α} (h1 : c a b ≤ 0) (h2 : c b e < 0) : c a e < 0 := by
 have h3 := h.tr a b e h1 om
 rcases Int.lt_or_eq_of_le h3 with h4 | h4
 ·exact h4
 ·have h5 := h.zs h4
  have h6 := h.tr e a b om h1
  have := (h.anti b e).1 h2; omega
theorem COK.zz (h : COK c) {a b e : α} (h1 : c a b = 0) (h2 : c b e = 0) : c a e = 0 := by
 have h3 := h.tr a b e om om
 have h4 := h.tr e b a (by have := h.zs h2; omega) (by have := h.zs h1; omega)
 have := h.neg h4; omega
def thenC (c d : α → α → Int) (a b : α) : Int := if c a b ≠ 0 then c a b else d a b
theorem COK.then (hc : COK c) (hd : COK d) : COK (thenC c d) where
 anti := fun a b => by
   unfold thenC
   have h1 := hc.anti a b; have h2 := hc.anti b a; have h3 := hd.anti a b
   by_cases h : c a b = 0
   ·have h' := hc.zs h
    simp [h, h', h3]
   ·have h' : c b a ≠ 0 := fun e => h (hc.zs e)
    simp [h, h', h1]
 tr := fun a b e h1 h2 => by
   unfold thenC at *
   by_cases ha : c a b = 0
   ·rw [if_neg (by simp [ha])] at h1
    by_cases hb : c b e = 0
    ·rw [if_neg (by simp [hb])] at h2
     rw [if_neg (by simp [hc.zz ha hb])]
     exact hd.tr _ _ _ h1 h2
    ·rw [if_pos hb] at h2
     have := hc.le_lt (a := a) (b := b) (e := e) om om
     rw [if_pos om]; omega
   ·rw [if_pos ha] at h1
    have h2' : c b e ≤ 0 := by
      by_cases hb : c b e = 0
      ·omega
      ·rw [if_pos hb] at h2; exact h2
    have := hc.lt_le (a := a) (b := b) (e := e) om h2'
    rw [if_pos om]; omega
end
theorem Jm (a b : UInt8) (az bs : List UInt8) : Lib.compareBytes (a :: az) (b :: bs) = if a < b then -1 else if b < a then 1 else Lib.compareBytes az bs := rfl
theorem Jn : ∀ (a b : List UInt8), Lib.compareBytes a b < 0 ↔ 0 < Lib.compareBytes b a
 | [], [] => odc
 | [], _ :: _ => by simp [Lib.compareBytes]
 | _ :: _, [] => by simp [Lib.compareBytes]
 | a :: az, b :: bs => by
   rw [Jm, Jm]
   have := Jn az bs
   by_cases h1 : a < b
   ·have h2 : ¬ b < a := by simp only [UInt8.lt_iff_toNat_lt] at *; omega
    simp [h1, h2]
   ·by_cases h2 : b < a
    ·simp [h1, h2]
    ·simp [h1, h2, this]
theorem cb_tr : ∀ (a b c : List UInt8), Lib.compareBytes a b ≤ 0 → Lib.compareBytes b c ≤ 0 → Lib.compareBytes a c ≤ 0
 | [], _, [] => fun _ _ => odc
 | [], _, _ :: _ => fun _ _ => by simp [Lib.compareBytes]
 | _ :: _, [], _ => fun h => by simp [Lib.compareBytes] at h
 | _ :: _, _ :: _, [] => fun _ h => by simp [Lib.compareBytes] at h
 | a :: az, b :: bs, c :: cs => fun h1 h2 => by
   rw [Jm] at *
   have ih := cb_tr az bs cs
   simp only [UInt8.lt_iff_toNat_lt] at *
   repeat' split at h1
   all_goals repeat' split at h2
   all_goals repeat' split
   all_goals first | omega | exact ih h1 h2 | skip
theorem U4 : ∀ (a b : List UInt8), Lib.compareBytes a b = 0 ↔ a = b
 | [], [] => odc
 | [], _ :: _ => by simp [Lib.compareBytes]
 | _ :: _, [] => by simp [Lib.compareBytes]
 | a :: az, b :: bs => by
   rw [Jm]
   have := U4 az bs
   by_cases h1 : a < b
   ·have h2 : a ≠ b := fun e => by subst e; simp only [UInt8.lt_iff_toNat_lt] at h1; omega
    simp [h1, h2]
   ·by_cases h2 : b < a
    ·have h3 : a ≠ b := fun e => by subst e; simp only [UInt8.lt_iff_toNat_lt] at h2; omega
     simp [h1, h2, h3]
    ·have h3 : a = b := by
       apply UInt8.toNat_inj.1; simp only [UInt8.lt_iff_toNat_lt] at h1 h2; omega
     simp [h1, h2, h3, this]
theorem NH {a b : List UInt8} : Lib.compareBytes a b < 0 ↔ 0 < Lib.compareBytes b a := Jn a b
theorem cb_ge {a b : List UInt8} : 0 ≤ Lib.compareBytes a b ↔ Lib.compareBytes b a ≤ 0 := by
 have := Jn a b
 constructor
 ·intro h; rcases Int.lt_or_le 0 (Lib.compareBytes b a) with h1 | h1
  ·have := this.2 h1; omega
  ·exact h1
 ·intro h; rcases Int.lt_or_le (Lib.compareBytes a b) 0 with h1 | h1
  ·have := this.1 h1; omega
  ·exact h1
theorem cb_le_lt {a b c : List UInt8} (h : Lib.compareBytes a b ≤ 0) (h' : Lib.compareBytes b c < 0) : Lib.compareBytes a c < 0 := by
 have h1 := cb_tr a b c h om
 rcases Int.lt_or_le (Lib.compareBytes a c) 0 with h2 | h2
 ·exact h2
 ·have e : a = c := (U4 a c).1 om
  subst e
  have := Jn b a
  omega
theorem QH {a b c : List UInt8} (h : Lib.compareBytes a b < 0) (h' : Lib.compareBytes b c ≤ 0) : Lib.compareBytes a c < 0 := by
 have h1 := cb_tr a b c om h'
 rcases Int.lt_or_le (Lib.compareBytes a c) 0 with h2 | h2
 ·exact h2
 ·have e : a = c := (U4 a c).1 om
  subst e
  have := Jn a b
  omega
theorem cb_nil (a : List UInt8) : 0 ≤ Lib.compareBytes a [] := by cases a <;> simp [Lib.compareBytes]
def Jb (q : QryE) (start : List UInt8) (has : Bool) : Prop :=
 if q.rev then (if has then (q.to.length = 0 ∨ Lib.compareBytes start q.to ≤ 0) else q.to.length = 0) else (if has then 0 ≤ Lib.compareBytes start q.frm else q.frm = [])
theorem comes_start {nf : Nat} {q : QryE} {x : RowE} {last : Option (List UInt8)} {start : List UInt8} {has : Bool} (h : NG nf q x last start has = true) : has = true → if q.rev then Lib.compareBytes x.row start < 0 else 0 ≤ Lib.compareBytes x.row start := fun hh => by
 unfold NG at h
 simp only [Bool.and_eq_true] at h
 have := h.1.2
 subst hh
 cases hr : q.rev <;> rw [hr] at this <;> simpa using this
theorem LP {nf : Nat} {q : QryE} {x : RowE} {last : Option (List UInt8)} {start : List UInt8} {has : Bool} (hs : Jb q start has) (h : NG nf q x last start has = true) : Ws q x.row = !Y1 q x.row := by
 have hc := comes_start h
 unfold Jb at hs
 unfold Ws Y1
 cases hr : q.rev
 ·rw [hr] at hs hc
  simp only [Bool.false_eq_true, if_false] at hs hc
  have h1 : 0 ≤ Lib.compareBytes x.row q.frm := by
    cases has with
    | false => simp only [Bool.false_eq_true, if_false] at hs; rw [hs]; exact cb_nil _
    | true =>
      simp only [if_true] at hs
      have a := cb_ge.1 (hc rfl); have b := cb_ge.1 hs
      exact cb_ge.2 (cb_tr _ _ _ b a)
  by_cases h2 : q.to.length = 0
  ·simp [h1, h2]
  ·by_cases h3 : 0 ≤ Lib.compareBytes x.row q.to
   ·have : ¬ Lib.compareBytes x.row q.to < 0 := om
    simp [h1, h2, h3, this]; omega
   ·have : Lib.compareBytes x.row q.to < 0 := om
    simp [h1, h2, h3, this]
 ·rw [hr] at hs hc
  simp only [if_true] at hs hc
  have h1 : q.to.length = 0 ∨ Lib.compareBytes x.row q.to < 0 := by
    cases has with
    | false => simp only [Bool.false_eq_true, if_false] at hs; exact .inl hs
    | true =>
      simp only [if_true] at hs
      rcases hs with h | h
      ·exact .inl h
      ·exact .inr (QH (hc rfl) h)
  by_cases h2 : Lib.compareBytes x.row q.frm < 0
  ·have : ¬ 0 ≤ Lib.compareBytes x.row q.frm := om
   simp [h2, this]
  ·have : 0 ≤ Lib.compareBytes x.row q.frm := om
   rcases h1 with h | h <;> simp [h2, this, h]
end Go.Rt
set_option maxRecDepth 10000
namespace Go.Proofs.YtkmkbndcekklmaaGreatDoor
open Go Go.Sx Go.Rt Go.Proofs
def ZC (q : QryE) : List UInt8 × Bool × Int :=
 if (ZM q).2.2 ≠ 0 then ([], false, (ZM q).2.2)
 else if 0 < (ZM q).1 then (if q.rev then (ZM q).2.1 else (ZM q).2.1 ++ [0], true, 0)
 else if q.rev then (q.to, decide (0 < q.to.length), 0) else (q.frm, decide (0 < q.frm.length), 0)
def atE (q : QryE) (clock : Int) : Int × Int :=
 if clock < 1 ∨ 1099511627776 < clock then (0, 1)
 else if (ZM q).2.2 ≠ 0 then (0, (ZM q).2.2)
 else if 0 < (ZM q).1 then ((ZM q).1, 0)
 else if q.time ≠ 0 then (q.time, 0) else (clock, 0)
def Yv (fs : List Fml) (q : QryE) : Option Tst := if q.whr.length = 0 then none else match WF fs q.whr with | .ok x => some x.1 | .error _ => none
def runE (fs : List Fml) (q : QryE) (clock : Int) (src : Option (List RowE × Int)) : PgE × Nat × Int :=
 if qcE fs q ≠ 0 then (pgZ, 0, qcE fs q)
 else if (atE q clock).2 ≠ 0 then (pgZ, 0, 1)
 else match src with
   | none => (pgZ, 0, 1)
   | some s => runG fs.length q (Yv fs q) (tokB q (atE q clock).1) (ZC q).1 (ZC q).2.1 s.2 0 none [] s.1
structure RdOK (q : QryE) (r : Int × List UInt8 × Int) : Prop where
 t0 : 0 ≤ r.1
 t1 : r.1 ≤ 1099511627776
 len : r.2.1.length ≤ 256
 row : 0 < r.1 → Y1 q r.2.1 = true ∧ r.2.1.length ≠ 0
 none : r.1 = 0 → r.2.1 = []
theorem readQ_ok (q : QryE) : RdOK q (ZM q) := by
 have hbm := MV (rfQ q.token).1 (ruB (rfQ q.token).1 0).2.1 256
 have h0 : ∀ e : Int, RdOK q (0, [], e) := fun e => by constructor <;> simp
 unfold ZM
 by_cases h1 : q.token.length = 0
 ·rw [if_pos h1]; exact h0 _
 rw [if_neg h1]
 by_cases h2 : (rfQ q.token).2.2 ≠ 0
 ·rw [if_pos h2]; exact h0 _
 rw [if_neg h2]
 by_cases h3 : (ruB (rfQ q.token).1 0).2.2 ≠ 0 ∨ (ruB (rfQ q.token).1 0).1 < 1 ∨ 1099511627776 < (ruB (rfQ q.token).1 0).1 ∨ (q.time ≠ 0 ∧ (ruB (rfQ q.token).1 0).1 ≠ u64 q.time)
 ·rw [if_pos h3]; exact h0 _
 rw [if_neg h3]
 by_cases h4 : (rbB (rfQ q.token).1 (ruB (rfQ q.token).1 0).2.1 256).2.2 ≠ 0 ∨ (rbB (rfQ q.token).1 (ruB (rfQ q.token).1 0).2.1 256).1.length = 0 ∨ Y1 q (rbB (rfQ q.token).1 (ruB (rfQ q.token).1 0).2.1 256).1 = false ∨ (tokB q (ruB (rfQ q.token).1 0).1 (rbB (rfQ q.token).1 (ruB (rfQ q.token).1 0).2.1 256).1 == q.token) = false
 ·rw [if_pos h4]; exact h0 _
 rw [if_neg h4]
 refine ⟨osi, by simp only; omega, hbm, fun _ => ⟨?_, fun h => h4 (.inr (.inl h))⟩, fun h => by simp only at h; omega⟩
 cases h : Y1 q (rbB (rfQ q.token).1 (ruB (rfQ q.token).1 0).2.1 256).1
 ·exact absurd (.inr (.inr (.inl h))) h4
 ·rfl
theorem cb_snoc (a : List UInt8) (c : UInt8) : Lib.compareBytes a (a ++ [c]) < 0 := by
 induction a with
 | nil => simp [Lib.compareBytes]
 | cons b a ih =>
   show (if b < b then (-1 : Int) else if b < b then 1 else Lib.compareBytes a (a ++ [c])) < 0
   rw [if_neg osi, if_neg osi]; exact ih
theorem startE_ok (q : QryE) (h : (ZM q).2.2 = 0) : Jb q (ZC q).1 (ZC q).2.1 := by
 have hR := readQ_ok q
 unfold ZC
 rw [if_neg (by simp [h])]
 by_cases h1 : 0 < (ZM q).1
 ·rw [if_pos h1]
  have ha := (hR.row h1).1
  unfold Y1 at ha
  simp only [Bool.and_eq_true, Bool.or_eq_true, decide_eq_true_eq] at ha
  unfold Jb
  cases hr : q.rev
  ·simp only [Bool.false_eq_true, if_false, if_true]
   have := cb_snoc (ZM q).2.1 0
   have b := cb_ge.1 ha.1
   have := NH.1 (cb_le_lt b this)
   omega
  ·simp only [if_true]
   rcases ha.2 with h | h
   ·exact .inl h
   ·exact .inr om
 ·rw [if_neg h1]
  unfold Jb
  cases hr : q.rev
  ·simp only [Bool.false_eq_true, if_false]
   by_cases h2 : 0 < q.frm.length
   ·rw [decide_eq_true h2, if_pos rfl]; have := (U4 q.frm q.frm).2 rfl; omega
   ·rw [decide_eq_false h2, if_neg osi]; exact List.length_eq_zero_iff.1 om
  ·simp only [if_true]
   by_cases h2 : 0 < q.to.length
   ·rw [decide_eq_true h2, if_pos rfl]; have := (U4 q.to q.to).2 rfl; exact .inr om
   ·rw [decide_eq_false h2, if_neg osi]; omega
end Go.Proofs.YtkmkbndcekklmaaGreatDoor
set_option maxRecDepth 10000
namespace Go.Proofs.YtkmkbndcekklmaaGreatDoor
open Go Go.Sx Go.Rt Go.Proofs Tryz
def XN (q : QryE) : AV := .tup [bys (ZC q).1, .bool (ZC q).2.1, .int .i64 (ZC q).2.2]
theorem NB50.eqs {P Q : Prop} (g : Imp P Q := by (try simp only [go_sem, seval, hsz, hag, hmo, f1, hs, g1, g2, l1, hs1, hs2, hs3, Zg, Zu, bys, List.length_map]); exact Pm) : Imp P Q := g
set_option maxHeartbeats 3200000 in
open NB50 NY in
theorem o_query_Start (q : QryE) (hq : q.fine) {H : Heap} {n : Nat} (hG : GOK 1 1 H n) : Zn prog 24 [Zg q] H n (OAns H n (XN q)) := by
 have hsz : (Zg q).sz = 10 := Z6 q
 have hag : (Zg q).isAgg = true := rfl
 have hmo : (Zg q).memOK = true := rfl
 have hR := readQ_ok q
 obtain ⟨z, hz⟩ : ∃ z, z = ZC q := ⟨_, rfl⟩
 unfold XN
 rw [← hz]
 unfold ZC at hz
 obtain ⟨r, hr⟩ : ∃ r, r = ZM q := ⟨_, rfl⟩
 rw [← hr] at hz hR
 have hs := hsz
 have g1 := hsz
 have g2 := hsz
 have l1 := hsz
 have hs1 := hsz
 have hs2 := hsz
 have hs3 := hsz
 have hM := hsz
 have f1 : (n = n + 1) = False := osi
 refine fw func24 ntmps24 results24 ?_
 refine rg zs [1] ?_
 refine rk zs [1, 5, 6] fun K V => ?_
 refine Zt (args' := [Zg q]) func59 rfl rfl rfl (Kb q hq ?_) ?_ ?_
 ·exact hG.on (fun k hk => oh) om
 rotate_left
 ·intro p H' n' hc; exact hc.pan.elim
 rw [← hr]
 intro rr H2 n2 hc
 obtain ⟨ks, hM⟩ := hc.got
 obtain ⟨a1, rfl, ho1⟩ := hM.own.tupI_shape
 obtain ⟨a, rfl, ho⟩ := ho1.aggI_shape
 have hs := fun g => ho.strip g
 have hn2 := hM.nn
 have g1 : (n = n2) = False := oz
 have l1 := (hM.low n om).trans (Pk _ _ _)
 have hlo : ∀ k, k < n → H2 k = H k := fun k hk => (hM.low k om).trans (Pi _ _ om)
 obtain ⟨hs1, hs2, hs3⟩ := ho.sl_sz
 refine nz ?_
 refine kas ?_
 refine bk fun K1 hK1 => ?_
 refine rg zs [1, 5, 6, 12] ?_
 refine Zb ?_ ?_ <;> intro hb
 ·rw [if_pos osb] at hz
  refine rg zs [2, 3, 4] ?_
  refine ar ?_
  rw [hz]
  refine OAns.emp (PO .nilsl) (fun k hk => ?_) om; rw [Pi _ _ om]; exact hlo k hk
 rw [if_neg osb] at hz
 refine rg zs [1, 5, 16] ?_
 refine Zb ?_ ?_ <;> intro hb
 ·have h2 : 0 < r.1 ∧ q.rev = false := by simp at hb; exact ⟨hb.1, by simpa using hb.2⟩
  rw [if_pos h2.1, h2.2] at hz
  rcases Own.bytes ho with ⟨_, h9, _⟩ | ⟨k0, v0, els, rfl, rfl, hk, hE⟩
  ·exact absurd (by rw [h9]; rfl) (hR.row h2.1).2
  have hkl := hM.lo k0 osi
  have g4 : (k0 = n2) = False := oz
  refine awp_trim k0 r.2.1.length (v := v0) (e := 1) (els := els) (by simp only [Pj, g4]; exact hk) ?_
  rw [hE]
  have g5 : (n2 = k0) = False := oz
  refine Zf zs [2, 3, 4] fun K V => ?_
  try simp only [go_sem, seval, hsz, hag, hmo, f1, hs, g1, g2, l1, hs1, hs2, hs3, Zg, Zu, bys, List.length_map, g4, g5, Yn]
  repeat (first | (refine And.intro ?_ ?_; · first | exact ⟨Nat.le_refl _, .inr trivial, by have := hR.len; omega, by have := hR.len; omega⟩) | refine peel ?_)
  refine kas ?_
  refine ar ?_
  rw [hz]
  exact OAns.one (PO (.osl (els := (r.2.1 ++ [0]).map Zd) (by rw [Pk, List.map_append]; rfl) osi (by rw [List.take_of_length_le osi]; exact PK _ (UE _)))) om (fun k hk => by rw [Pi _ _ om, Pi _ _ om]; exact hlo k hk) om
 have h2 : ¬ (0 < r.1 ∧ q.rev = false) := by rintro ⟨a1, a2⟩; simp [a1, a2] at hb
 refine rg zs [1, 5, 29] ?_
 refine Zb ?_ ?_ <;> intro hb
 ·have h3 : 0 < r.1 := osb
  have h4 : q.rev = true := by cases e : q.rev; exact absurd ⟨h3, e⟩ h2; rfl
  rw [if_pos h3, h4] at hz
  refine rg zs [2, 3, 4] ?_
  refine ar ?_
  rw [hz]
  exact ⟨_, ks, rfl, PO (ho.frame fun k hk => Pi _ _ (by have := hM.lo k hk; omega)), hM.nd, fun k hk => by have := hM.lo k hk; omega, fun k hk => by rw [Pi _ _ om]; exact hlo k hk, om⟩
 rw [if_neg osb] at hz
 refine rg zs [1, 35] ?_
 refine Zb ?_ ?_ <;> intro hb
 ·rw [if_pos hb] at hz
  exact kai
 rw [if_neg (by rw [hb]; simp)] at hz
 refine kay ?_
 exact kai
theorem NB60.eqs {P Q : Prop} (g : Imp P Q := by (try simp only [go_sem, seval, hsz, hag, hmo, f1, Zg, Zu, bys, List.length_map]); exact Pm) : Imp P Q := g
open NB60 NY in
theorem NV (q : QryE) (hq : q.fine) (clock : Int) {H : Heap} {n : Nat} (hG : GOK 1 1 H n) : Ret prog 36 [Zg q, .int .i64 clock] H n (.tup [.int .i64 (atE q clock).1, .int .i64 (atE q clock).2]) H n := by
 have hsz : (Zg q).sz = 10 := Z6 q
 have hag : (Zg q).isAgg = true := rfl
 have hmo : (Zg q).memOK = true := rfl
 obtain ⟨z, hz⟩ : ∃ z, z = atE q clock := ⟨_, rfl⟩
 rw [← hz]
 unfold atE at hz
 have f1 : (n = n + 1) = False := osi
 refine Ret.fin ?_
 refine fw func36 ntmps36 results36 ?_
 refine rg zs [1, 2] ?_
 refine Za fun K1 hK1 => ?_
 refine rg zs [1, 2, 13] ?_
 refine Zb ?_ ?_ <;> intro hb
 ·rw [if_pos (by simp at hb; omega)] at hz
  exact kah
 rw [if_neg (by simp at hb; omega)] at hz
 refine kay ?_
 refine rk zs [1, 2, 6, 7] fun K V => ?_
 refine ck func59 ((U8 q hq (hG.on (fun k hk => oh) om))) ?_
 refine kas ?_
 refine bk fun K2 hK2 => ?_
 refine rg zs [1, 2, 6, 7, 19] ?_
 refine Zb ?_ ?_ <;> intro hb
 ·rw [if_pos osb] at hz
  exact kah
 rw [if_neg osb] at hz
 refine rg zs [1, 2, 6, 23] ?_
 refine Zb ?_ ?_ <;> intro hb
 ·rw [if_pos osb] at hz
  exact kah
 rw [if_neg osb] at hz
 refine rg zs [1, 2, 29] ?_
 refine Zb ?_ ?_ <;> intro hb
 ·rw [if_pos osb] at hz
  exact kah
 rw [if_neg osb] at hz
 refine kaQ ?_
 exact kah
theorem isPrefix_take (s b : List UInt8) : s.isPrefixOf b = (decide (s.length ≤ b.length) && (b.take s.length == s)) := by
 rw [Bool.eq_iff_iff]
 simp only [Bool.and_eq_true, decide_eq_true_eq, beq_iff_eq, List.isPrefixOf_iff_prefix]
 constructor
 ·intro h; exact ⟨h.length_le, (List.prefix_iff_eq_take.1 h).symm⟩
 ·rintro ⟨_, h⟩; exact List.prefix_iff_eq_take.2 h.symm
theorem NB61.eqs {P Q : Prop} (g : Imp P Q := by (try simp only [go_sem, seval, List.length_map, Option.getD_some, Option.getD_none, Int.toNat_natCast, Int.toNat_zero, List.drop_zero, ← List.map_take]); exact Pm) : Imp P Q := g
open NB61 NY in
theorem Ud (b s : List UInt8) (H : Heap) (n : Nat) : Ret prog 82 [bys b, bys s] H n (.bool (s.isPrefixOf b)) H n := by
 rw [isPrefix_take]
 refine fw func82 ntmps82 results82 ?_
 refine kb1 ?_
 refine rk zs [4] fun K V => ?_
 refine cg func96 (fun _ => (Us (b.take s.length) s _ _)) ?_
 refine kas ?_
 refine ar ?_
 rw [show decide ((s.length : Int) ≤ (b.length : Int)) = decide (s.length ≤ b.length) from decide_eq_decide.2 om]
 cases decide (s.length ≤ b.length) <;> rfl
open N0 in
theorem NU (s : List UInt8) (c : Int) (H : Heap) (n : Nat) : Ret prog 163 [.str s, .int .i64 c] H n (.bool (byS s c)) H n := by
 unfold byS
 refine fw func163 ntmps163 results163 ?_
 refine kb1 ?_
 refine Za fun K1 hK1 => ?_
 refine rg zs [1, 5] ?_
 refine kbM ?_
 refine rg zs [1, 5, 6] ?_
 refine Zb ?_ ?_ <;> intro hb
 ·have p1 : s = [61] := osb
  refine kag ?_
  rw [if_pos p1]; done
 have p1 : ¬ s = [61] := osb
 refine rg zs [1, 5, 10] ?_
 refine Zb ?_ ?_ <;> intro hb
 ·have p2 : s = [33, 61] := osb
  refine kag ?_
  rw [if_neg p1, if_pos p2]; done
 have p2 : ¬ s = [33, 61] := osb
 refine rg zs [1, 5, 14] ?_
 refine Zb ?_ ?_ <;> intro hb
 ·have p3 : s = [60] := osb
  refine kag ?_
  rw [if_neg p1, if_neg p2, if_pos p3]; done
 have p3 : ¬ s = [60] := osb
 refine rg zs [1, 5, 18] ?_
 refine Zb ?_ ?_ <;> intro hb
 ·have p4 : s = [60, 61] := osb
  refine kag ?_
  rw [if_neg p1, if_neg p2, if_neg p3, if_pos p4]; done
 have p4 : ¬ s = [60, 61] := osb
 refine rg zs [1, 22] ?_
 refine Zb ?_ ?_ <;> intro hb
 ·have p5 : s = [62] := osb
  refine kag ?_
  rw [if_neg p1, if_neg p2, if_neg p3, if_neg p4, if_pos p5]; done
 have p5 : ¬ s = [62] := osb
 refine kay ?_
 refine kag ?_
 rw [if_neg p1, if_neg p2, if_neg p3, if_neg p4, if_neg p5]; done
def TstC (t : Tst) : Prop := ∃ f caps, ∃ fn : Func, Yc t = .fn (.func f) [] caps ∧ prog.funcs[f]? = some fn ∧ fn.body.isSome = true ∧ (fn.name == "runtime.NumGoroutine") = false ∧ ∀ (c : CelE) (H : Heap) (n : Nat), Ret prog f ([Zr c] ++ caps) H n (.bool (t.holds c)) H n
theorem NB62.eqs {P Q : Prop} (g : Imp P Q := by (try simp only [go_sem, seval, hsz, hag, hmo]); exact Pm) : Imp P Q := g
open NB62 NY in
theorem c_tst_or (a b : Tst) (ha : TstC a) (hb : TstC b) (c : CelE) (H : Heap) (n : Nat) : Ret prog 122 [Zr c, .rp (Yc a), .rp (Yc b)] H n (.bool (a.holds c || b.holds c)) H n := by
 obtain ⟨f1, cs1, fn1, e1, hf1, hb1, hn1, hc1⟩ := ha
 obtain ⟨f2, cs2, fn2, e2, hf2, hb2, hn2, hc2⟩ := hb
 rw [e1, e2]
 have hsz : (Zr c).sz = 4 := XK c
 have hag : (Zr c).isAgg = true := rfl
 have hmo : (Zr c).memOK = true := rfl
 refine Ret.fin ?_
 refine fw func122 ntmps122 results122 ?_
 refine rg zs [1, 2, 3] ?_
 refine rk zs [4] fun K V => ?_
 refine Zo hf1 hb1 hn1 rfl (hc1 c _ _) ?_
 refine nz ?_
 refine Yz hf2 hb2 hn2 rfl (fun _ => hc2 c _ _) ?_
 refine nz ?_
 refine kas ?_
 exact kcw
open NB62 NY in
theorem c_tst_and (a b : Tst) (ha : TstC a) (hb : TstC b) (c : CelE) (H : Heap) (n : Nat) : Ret prog 143 [Zr c, .rp (Yc a), .rp (Yc b)] H n (.bool (a.holds c && b.holds c)) H n := by
 obtain ⟨f1, cs1, fn1, e1, hf1, hb1, hn1, hc1⟩ := ha
 obtain ⟨f2, cs2, fn2, e2, hf2, hb2, hn2, hc2⟩ := hb
 rw [e1, e2]
 have hsz : (Zr c).sz = 4 := XK c
 have hag : (Zr c).isAgg = true := rfl
 have hmo : (Zr c).memOK = true := rfl
 refine Ret.fin ?_
 refine fw func143 ntmps143 results143 ?_
 refine rg zs [1, 2, 3] ?_
 refine rk zs [4] fun K V => ?_
 refine Zo hf1 hb1 hn1 rfl (hc1 c _ _) ?_
 refine nz ?_
 refine Yz hf2 hb2 hn2 rfl (fun _ => hc2 c _ _) ?_
 refine nz ?_
 refine kas ?_
 exact kcw
open NB62 NY in
theorem c_tst_not (a : Tst) (ha : TstC a) (c : CelE) (H : Heap) (n : Nat) : Ret prog 154 [Zr c, .rp (Yc a)] H n (.bool (!a.holds c)) H n := by
 obtain ⟨f1, cs1, fn1, e1, hf1, hb1, hn1, hc1⟩ := ha
 rw [e1]
 have hsz : (Zr c).sz = 4 := XK c
 have hag : (Zr c).isAgg = true := rfl
 have hmo : (Zr c).memOK = true := rfl
 refine Ret.fin ?_
 refine fw func154 ntmps154 results154 ?_
 refine rg zs [1, 2] ?_
 refine rk zs [3] fun K V => ?_
 refine Zo hf1 hb1 hn1 rfl (hc1 c _ _) ?_
 refine nz ?_
 refine kas ?_
 refine ar ?_
 exact kcj
theorem NB63.eqs {P Q : Prop} (g : Imp P Q := by (try simp only [go_sem, seval, hsz, hag, hmo, Zr]); exact Pm) : Imp P Q := g
open NB63 NY in
theorem c_tst_fam (m : Int) (s : List UInt8) (c : CelE) (H : Heap) (n : Nat) : Ret prog 160 [Zr c, .rp (.int .i64 m), .rp (.str s)] H n (.bool ((c.fam == m) == (s == [61]))) H n := by
 have hsz : (Zr c).sz = 4 := XK c
 have hag : (Zr c).isAgg = true := rfl
 have hmo : (Zr c).memOK = true := rfl
 refine Ret.fin ?_
 refine fw func160 ntmps160 results160 ?_
 refine rg zs [1, 2, 3] ?_
 refine kag ?_
 exact kcj
open NB63 NY in
theorem c_tst_ts (s : List UInt8) (m : Nat) (c : CelE) (H : Heap) (n : Nat) : Ret prog 164 [Zr c, .rp (.str s), .rp (.int .i64 m)] H n (.bool (byS s (cmpI c.ts m))) H n := by
 have hsz : (Zr c).sz = 4 := XK c
 have hag : (Zr c).isAgg = true := rfl
 have hmo : (Zr c).memOK = true := rfl
 refine Ret.fin ?_
 refine fw func164 ntmps164 results164 ?_
 refine rg zs [1, 2, 3] ?_
 refine dx zs [4] [.q, .q, .q, .q, .c, .c, .q] [0, 1, 2, 3, 4, 5, 6] [0, 1, 2, 3, 4, 5, 6] fun K V => ?_
 refine cq func165 (fun _ n => (c_cmp_Compare c.ts m _ _)) ?_
 refine cq func163 (fun _ n => (NU s (cmpI c.ts m) _ _)) ?_
 refine kas ?_
 refine ar ?_
 exact kcj
open NB63 NY in
theorem c_tst_cmp (qual : Bool) (s x : List UInt8) (c : CelE) (H : Heap) (n : Nat) : Ret prog 162 [Zr c, .rp (.bool qual), .rp (.str s), .rp (bys x)] H n (.bool ((Tst.cmp qual s x).holds c)) H n := by
 have hsz : (Zr c).sz = 4 := XK c
 have hag : (Zr c).isAgg = true := rfl
 have hmo : (Zr c).memOK = true := rfl
 unfold Tst.holds
 refine Ret.fin ?_
 refine fw func162 ntmps162 results162 ?_
 refine rg zs [1, 2, 3, 4] ?_
 refine rg zs [1, 2, 3, 4, 6] ?_
 refine ZQ [2, 3, 6] (fun T' H' n' => T' = tl [(2, .rp (.str s)), (3, .rp (bys x)), (6, bys (if qual then c.qual else c.value))] ∧ H' = H.put n (some (.arr 0 4 [Zr c])) ∧ n' = n + 1) ?_ ?_
 ·refine rg zs [2, 3, 4, 6, 9] ?_
  refine Zb ?_ ?_ <;> intro hb
  ·refine rg1 zs [2, 3, 6] ?_
   exact kcH
  refine ak ?_
  exact kcH
 rintro T1 H1 n1 ⟨rfl, rfl, rfl⟩
 generalize (if qual then c.qual else c.value) = v
 refine Za fun K1 hK1 => ?_
 refine rg zs [2, 3, 6, 13] ?_
 refine Zb ?_ ?_ <;> intro hb
 ·have p1 : s = [94] := osb
  refine rc zs [5] func82 ((Ud v x _ _)) ?_
  exact kcl
 have p1 : ¬ s = [94] := osb
 refine kay ?_
 refine dx zs [5] [.q, .m, .q, .c, .c, .q] [0, 1, 2, 3, 4, 5] [0, 1, 2, 3, 4, 5] fun K V => ?_
 refine cq func54 (fun _ n => (Yb v x _ _)) ?_
 refine cq func163 (fun _ n => (NU s (Lib.compareBytes v x) _ _)) ?_
 refine kas ?_
 exact kcl
theorem c_tst : ∀ t : Tst, TstC t
 | .or a b => ⟨_, _, _, rfl, func122, rfl, rfl, c_tst_or a b (c_tst a) (c_tst b)⟩
 | .and a b => ⟨_, _, _, rfl, func143, rfl, rfl, c_tst_and a b (c_tst a) (c_tst b)⟩
 | .not a => ⟨_, _, _, rfl, func154, rfl, rfl, c_tst_not a (c_tst a)⟩
 | .fam m s => ⟨_, _, _, rfl, func160, rfl, rfl, c_tst_fam m s⟩
 | .cmp q s x => ⟨_, _, _, rfl, func162, rfl, rfl, c_tst_cmp q s x⟩
 | .ts s m => ⟨_, _, _, rfl, func164, rfl, rfl, c_tst_ts s m⟩
def Nk : Option (List UInt8) → AV
 | none => .nilsl
 | some l => bys l
theorem NB70.eqs {P Q : Prop} (g : Imp P Q := by (try simp only [go_sem, seval, hsz, hag, hmo, Zg, Zu, bys, List.length_map]); exact Pm) : Imp P Q := g
open NB70 NY in
theorem Lr (q : QryE) (row start : List UInt8) (has : Bool) (H : Heap) (n : Nat) : Ret prog 52 [Zg q, bys row, .nilsl, bys start, .bool has] H n (.bool (YR q row none start has)) H n := by
 have hsz : (Zg q).sz = 10 := Z6 q
 have hag : (Zg q).isAgg = true := rfl
 have hmo : (Zg q).memOK = true := rfl
 obtain ⟨z, hz⟩ : ∃ z, z = YR q row none start has := ⟨_, rfl⟩
 rw [← hz]
 unfold YR at hz
 refine Ret.fin ?_
 refine fw func52 ntmps52 results52 ?_
 refine rg zs [1, 2, 3, 4, 5] ?_
 refine Za fun K1 hK1 => ?_
 refine rg zs [1, 2, 3, 4, 5, 18] ?_
 refine Zb ?_ ?_ <;> intro hb
 ·rw [if_pos (by simp at hb; grind)] at hz
  refine rg zs [10] ?_
  refine kaK ?_
  rw [hz]; done
 rw [if_neg (by simp at hb; grind)] at hz
 refine kay ?_
 refine bk fun K2 hK2 => ?_
 refine rg zs [1, 2, 3, 4, 5, 19] ?_
 refine Zb ?_ ?_ <;> intro hb
 ·exact kcQ
 refine rg zs [1, 2, 3, 4, 5, 30] ?_
 refine Zb ?_ ?_ <;> intro hb
 ·exact kcQ
 refine rg zs [1, 3, 4, 37] ?_
 refine Zb ?_ ?_ <;> intro hb
 ·have p1 : has = true ∧ q.rev = true := by cases has <;> simp_all
  refine rc zs [10] func54 ((Yb row start _ _)) ?_
  refine kaK ?_
  rw [hz]; simp [p1.1, p1.2]; done
 have p1 : ¬ (has = true ∧ q.rev = true) := by rintro ⟨a, b⟩; rw [a, b] at hb; cases hb
 refine rg zs [1, 3, 47] ?_
 refine Zb ?_ ?_ <;> intro hb
 ·have p2 : has = true := hb
  refine rc zs [10] func54 ((Yb row start _ _)) ?_
  refine kaK ?_
  rw [hz]; cases hh : q.rev <;> simp_all
 have p2 : has = false := hb
 refine kaQ ?_
 refine rg zs [10] ?_
 refine kaK ?_
 rw [hz]; cases hh : q.rev <;> simp_all
theorem NB71.eqs {P Q : Prop} (g : Imp P Q := by (try simp only [go_sem, seval, hsz, hag, hmo, Zg, Zu, bys, List.length_map, List.map_cons]); exact Pm) : Imp P Q := g
open NB71 NY in
theorem Lm (q : QryE) (row : List UInt8) (x : UInt8) (l start : List UInt8) (has : Bool) (H : Heap) (n : Nat) : Ret prog 52 [Zg q, bys row, bys (x :: l), bys start, .bool has] H n (.bool (YR q row (some (x :: l)) start has)) H n := by
 have hsz : (Zg q).sz = 10 := Z6 q
 have hag : (Zg q).isAgg = true := rfl
 have hmo : (Zg q).memOK = true := rfl
 obtain ⟨z, hz⟩ : ∃ z, z = YR q row (some (x :: l)) start has := ⟨_, rfl⟩
 rw [← hz]
 unfold YR at hz
 refine Ret.fin ?_
 refine fw func52 ntmps52 results52 ?_
 refine rg zs [1, 2, 3, 4, 5] ?_
 refine Za fun K1 hK1 => ?_
 refine rg zs [1, 2, 3, 4, 5, 18] ?_
 refine Zb ?_ ?_ <;> intro hb
 ·rw [if_pos (by simp at hb; grind)] at hz
  refine rg zs [10] ?_
  refine kaK ?_
  rw [hz]; done
 rw [if_neg (by simp at hb; grind)] at hz
 refine kay ?_
 refine bk fun K2 hK2 => ?_
 refine rg zs [1, 2, 3, 4, 5, 19] ?_
 refine Zb ?_ ?_ <;> intro hb
 ·have p1 : q.rev = true := osb
  refine rc zs [10] func54 ((Yb row (x :: l) _ _)) ?_
  refine kaK ?_
  rw [hz]; simp [p1]; done
 have p1 : q.rev = false := osb
 refine rg zs [1, 2, 3, 4, 5, 30] ?_
 refine Zb ?_ ?_ <;> intro hb
 ·refine rc zs [10] func54 ((Yb row (x :: l) _ _)) ?_
  refine kaK ?_
  rw [hz]; simp [p1]; done
 exact kcQ
theorem Ma (q : QryE) (row : List UInt8) (last : Option (List UInt8)) (hl : ∀ l, last = some l → l ≠ []) (start : List UInt8) (has : Bool) (H : Heap) (n : Nat) : Ret prog 52 [Zg q, bys row, Nk last, bys start, .bool has] H n (.bool (YR q row last start has)) H n := by
 cases last with
 | none => exact Lr q row start has H n
 | some l =>
   cases l with
   | nil => exact absurd rfl (hl [] rfl)
   | cons x l => exact Lm q row x l start has H n
def V7 : Option Tst → AV
 | none => .nilf
 | some t => Yc t
theorem M6 (t : Tst) : ∃ f a b, Yc t = .fn f a b := by cases t <;> exact ⟨_, _, _, rfl⟩
theorem V6 (t : Option Tst) (g : Bool) : strip g (V7 t) = V7 t := by
 cases t with
 | none => rfl
 | some t => obtain ⟨f, a, b, e⟩ := M6 t; show strip g (Yc t) = Yc t; rw [e]; rfl
theorem optAV_neq (t : Option Tst) (ty : TypeId) : qBin prog ty .neq (V7 t) .nilf = some (Lx prog ty = true, .bool t.isSome) := by
 cases t with
 | none => rfl
 | some t => obtain ⟨f, a, b, e⟩ := M6 t; show qBin prog ty .neq (Yc t) .nilf = _; rw [e]; rfl
theorem optAV_call {t : Option Tst} {g : Bool} (c : CelE) {H : Heap} {n : Nat} {k kp : AV → Heap → Nat → Prop} (hg : g = true → t.isSome = true) (hk : k (.opt g (.bool (Lb t c))) H n) : NK prog g (V7 t) [Zr c] H n k kp := by
 refine ⟨fun h => ?_, fun h => ⟨.bool (Lb t c), h ▸ hk⟩⟩
 subst h
 cases t with
 | none => cases hg rfl
 | some t =>
   obtain ⟨f1, cs1, fn1, e1, hf1, hb1, hn1, hc1⟩ := c_tst t
   show Xt prog (Yc t) _ _ _ _ _
   rw [e1]
   exact Zo hf1 hb1 hn1 rfl (hc1 c _ _) hk
theorem inFams_go {l : List Int} {f : Int} {j : Nat} (hj : j < l.length) (hf : l.getD j default = f) : U2 l f = true := by
 unfold U2
 have : f ∈ l := by rw [← hf]; simp [List.getD, List.getElem?_eq_getElem hj]
 rw [Bool.or_eq_true]; exact .inr (by simpa using this)
theorem inFams_no {l : List Int} {f : Int} (hl : l ≠ []) (h : ∀ i, i < l.length → l.getD i default ≠ f) : U2 l f = false := by
 unfold U2
 rw [Bool.or_eq_false_iff]
 refine ⟨by cases l; exact absurd rfl hl; rfl, ?_⟩
 cases hc : l.contains f with
 | false => rfl
 | true =>
   rw [List.contains_iff_mem] at hc
   obtain ⟨i, hi, he⟩ := List.mem_iff_getElem.1 hc
   exact absurd (by simpa [List.getD, List.getElem?_eq_getElem hi] using he) (h i hi)
structure ChS (q : QryE) (t : Option Tst) (cells : List CelE) (H : Heap) (n i : Nat) (ver : Nat) (els : List AV) (ks : List Nat) (H' : Heap) (n' : Nat) : Prop where
 hq : H' n = some (.arr 0 10 [Zg q])
 hl : H' (n + 1) = some (.arr ver 4 els)
 hp : Pile (n + 2) els ((Yy q t (cells.take i)).map Zr) ks H' n'
 low : ∀ k, k < n → H' k = H k
 lt : n + 2 ≤ n'
 le : els.length ≤ i
theorem own_cel {H : Heap} {a b : AV} {ks js : List Nat} (c : CelE) (h1 : Own H a (bys c.qual) ks) (h2 : Own H b (bys c.value) js) : Own H (.agg [.int .i64 c.fam, a, .int .i64 c.ts, b]) (Zr c) (ks ++ js) := by
 have := Own.agg (.cons (.nk (a := .int .i64 c.fam) trivial) (.cons h1 (.cons (.nk (a := .int .i64 c.ts) trivial) (.cons h2 .nil))))
 show Own H _ (.agg [.int .i64 c.fam, bys c.qual, .int .i64 c.ts, bys c.value]) _
 simpa using this
theorem chosen_snoc (q : QryE) (t : Option Tst) (l : List CelE) {i : Nat} (h : i < l.length) : Yy q t (l.take (i + 1)) = Yy q t (l.take i) ++ (if XT q t (l.getD i default) then [l.getD i default] else []) := by
 unfold Yy
 rw [Q9 l h, List.filter_append]
 congr 1
 simp only [List.filter_cons, List.filter_nil]
theorem ChS.skip {q : QryE} {t : Option Tst} {cells : List CelE} {H : Heap} {n i ver : Nat} {els : List AV} {ks : List Nat} {H1 : Heap} {n1 : Nat} (h : ChS q t cells H n i ver els ks H1 n1) {x : CelE} (hsn : Yy q t (cells.take (i + 1)) = Yy q t (cells.take i) ++ (if XT q t x then [x] else [])) (hno : XT q t x = false) {H2 : Heap} {n2 : Nat} (hH : ∀ k, k < n1 → H2 k = H1 k) (hn : n1 ≤ n2) : ChS q t cells H n (i + 1) ver els ks H2 n2 where
 hq := (hH _ (by have := h.lt; omega)).trans h.hq
 hl := (hH _ (by have := h.lt; omega)).trans h.hl
 hp := by rw [hsn, hno]; simp only [Bool.false_eq_true, if_false, List.append_nil]; exact h.hp.on (fun k _ hk => hH k hk) hn
 low := fun k hk => (hH k (by have := h.lt; omega)).trans (h.low k hk)
 lt := by have := h.lt; omega
 le := by have := h.le; omega
theorem ChS.add {q : QryE} {t : Option Tst} {cells : List CelE} {H : Heap} {n i ver : Nat} {els : List AV} {ks js : List Nat} {H1 : Heap} {n1 : Nat} (h : ChS q t cells H n i ver els ks H1 n1) {x : CelE} (hsn : Yy q t (cells.take (i + 1)) = Yy q t (cells.take i) ++ (if XT q t x then [x] else [])) (hno : XT q t x = true) {H2 : Heap} {n2 : Nat} {a : AV}
   (hH : ∀ k, k < n1 → k ≠ n + 1 → H2 k = H1 k) (hn : n1 ≤ n2) (hl : H2 (n + 1) = some (.arr (ver + 1) 4 (els ++ [a]))) (ho : Own H2 a (Zr x) js) (hd : js.Nodup) (hj : ∀ k ∈ js, n1 ≤ k ∧ k < n2) : ChS q t cells H n (i + 1) (ver + 1) (els ++ [a]) (ks ++ js) H2 n2 where
 hq := (hH _ (by have := h.lt; omega) om).trans h.hq
 hl := hl
 hp := by rw [hsn, hno, List.map_append]; simp only [if_true]; exact h.hp.add (fun k h1 hk => hH k hk om) ho hd hj h.lt hn
 low := fun k hk => (hH k (by have := h.lt; omega) om).trans (h.low k hk)
 lt := by have := h.lt; omega
 le := by have := h.le; rw [List.length_append]; simp; omega
theorem NB80.eqs {P Q : Prop} (g : Imp P Q := by (try simp only [go_sem, seval, hsz, hag, hmo, hcs, hca, hcm, f1, List.length_map, V6, optAV_neq, hQ, hL, hnth, hnf, g1, g2, g3, hx, hs, hs2, l1, l2, l3, z1, z3, z4, z6, Int.toNat_natCast, Zr, Zg, bys, Zu]); exact Pm) : Imp P Q := g
theorem NB80.sd {P : Prop} (g : P := by first | exact ⟨rfl, by (simp [AV.sz, AV.szs, AV.memOK, z1, z3, z4, z6]; first | done | fail)⟩ | exact ⟨Nat.le_refl _, .inr trivial, by have := hC.le; omega, by have := hC.le; omega⟩ | fail) : P := g
set_option maxHeartbeats 3200000 in
open NB80 NZ in
theorem M8 (q : QryE) (hqf : q.fams.length ≤ 1048576) (t : Option Tst) (cells : List CelE) (hcl : cells.length ≤ 1048576) (hcb : ∀ c ∈ cells, c.qual.length ≤ 1099511627776 ∧ c.value.length ≤ 1099511627776) (H : Heap) (n : Nat) :
   Zn prog 55 [Zg q, V7 t, .sl 4 (cells.map Zr)] H n (OAns H n (.sl 4 ((Yy q t cells).map Zr))) := by
 have hsz : (Zg q).sz = 10 := Z6 q
 have hag : (Zg q).isAgg = true := rfl
 have hmo : (Zg q).memOK = true := rfl
 have hcs : ∀ c, (Zr c).sz = 4 := XK
 have hca : ∀ c, (Zr c).isAgg = true := fun _ => rfl
 have hcm : ∀ c, (Zr c).memOK = true := fun _ => rfl
 have hQ := hsz
 have hL := hsz
 have hnth := hsz
 have hnf := hsz
 have g1 := hsz
 have g2 := hsz
 have g3 := hsz
 have hx := hsz
 have hs := hsz
 have hs2 := hsz
 have hA := hsz
 have l1 := hsz
 have l2 := hsz
 have l3 := hsz
 have z1 := hsz
 have z3 := hsz
 have z4 := hsz
 have z6 := hsz
 have f1 : (n = n + 1) = False := osi
 refine fw func55 ntmps55 results55 ?_
 refine rg zs [1, 2, 3] ?_
 refine awp_scope ?_
 refine rg zs [1, 2, 3, 7] ?_
 refine Za fun K1 hK1 => ?_
 refine awp_label ?_
 refine ns ?_
 apply hK1
 refine Za fun K2 hK2 => ?_
 refine rg zs [1, 3, 7, 12, 13, 14] ?_
 refine Zy ?_
 refine Z8 7 4 rfl ?_
 refine Yp [1, 3, 7, 12, 13, 14] ?_
 simp only [go_sem, seval]
 refine Zp (fun T' H' n' => ∃ (i ver : Nat) (els : List AV) (ks : List Nat), i ≤ cells.length ∧ T' = tl [(1, V7 t), (3, .loc n 0 0 0 []), (7, .osl (n + 1) ver 0 els.length), (12, .sl 4 (cells.map Zr)), (13, .int .i64 cells.length), (14, .int .i64 i)] ∧ ChS q t cells H n i ver els ks H' n') (fun T' _ _ => cells.length - iv (T' 14)) ?_ ?_
 ·exact ⟨0, 0, [], [], Nat.zero_le _, rfl, ⟨by simp [Heap.put]; rfl, Pk _ _ _, Pile.nil _ _ _, fun k hk => oh, om, Nat.le_refl _⟩⟩
 rintro T1 H1 n1 ⟨i, ver, els, ks, hi, rfl, hC⟩
 have hQ := hC.hq
 have hL := hC.hl
 have hn1 := hC.lt
 refine rg zs [1, 3, 7, 12, 13, 14, 15] ?_
 refine Za fun K3 hK3 => ?_
 refine Zb ?_ ?_ <;> intro hb
 ·have hlt : i < cells.length := ott
  have hnth : nth (cells.map Zr) i = Zr (cells.getD i default) := Zx Zr cells i hlt
  have hsn := chosen_snoc q t cells hlt
  have hcb1 := hcb _ (YH cells hlt)
  generalize cells.getD i default = x at *
  have g1 : (n = n1) = False := oz
  have g2 : (n + 1 = n1) = False := oz
  have hx : IntKind.i64.wrap ((i : Int) + 1) = ((i + 1 : Nat) : Int) := w1 om
  have hsome : t.isSome = false → Lb t x = true := by intro h; cases t; rfl; cases h
  refine ak ?_
  apply hK3
  refine ZQ [1, 3, 7, 12, 13, 14] (fun T' H' n' => ∃ ver els ks, T' = tl [(1, V7 t), (3, .loc n 0 0 0 []), (7, .osl (n + 1) ver 0 els.length), (12, .sl 4 (cells.map Zr)), (13, .int .i64 cells.length), (14, .int .i64 i)] ∧ ChS q t cells H n (i + 1) ver els ks H' n') ?_ ?_
  ·refine Zy ?_
   refine rg zs [1, 3, 7, 9, 12, 13, 14] ?_
   refine Za fun K4 hK4 => ?_
   refine rk zs [1, 3, 7, 9, 12, 13, 14, 33] fun K V => ?_
   refine ck func82 ((Ud x.qual q.pre _ _)) ?_
   refine optAV_call x ?_ ?_
   ·intro h9; simp at h9; exact h9.2
   refine nz ?_
   apply V; clear V K
   refine Zb ?_ ?_ <;> intro hb
   ·have hno : XT q t x = false := by unfold XT; cases h1 : q.pre.isPrefixOf x.qual <;> cases h2 : Lb t x <;> cases h3 : t.isSome <;> simp_all
    refine ax ?_
    refine ns ?_
    exact ⟨ver, els, ks, rfl, hC.skip hsn hno (fun k hk => Pi _ _ om) om⟩
   have hye : XT q t x = U2 q.fams x.fam := by unfold XT; cases h1 : q.pre.isPrefixOf x.qual <;> cases h2 : Lb t x <;> cases h3 : t.isSome <;> simp_all
   refine ak ?_
   apply hK4
   refine ZQ [1, 3, 7, 9, 12, 13, 14] (fun T' H' n' => T' = tl [(1, V7 t), (3, .loc n 0 0 0 []), (7, .osl (n + 1) ver 0 els.length), (9, .loc n1 0 0 0 []), (12, .sl 4 (cells.map Zr)), (13, .int .i64 cells.length), (14, .int .i64 i)] ∧ U2 q.fams x.fam = true ∧ H' = H1.put n1 (some (.arr 0 4 [Zr x])) ∧ n' = n1 + 1) ?_ ?_
   ·refine rg zs [1, 3, 7, 9, 12, 13, 14, 35, 36, 37] ?_
    refine Zy ?_
    refine Zp (fun T' H' n' => ∃ j : Nat, j ≤ q.fams.length ∧ (∀ m, m < j → q.fams.getD m default ≠ x.fam) ∧ (j = q.fams.length → q.fams = []) ∧ T' = tl [(1, V7 t), (3, .loc n 0 0 0 []), (7, .osl (n + 1) ver 0 els.length), (9, .loc n1 0 0 0 []), (12, .sl 4 (cells.map Zr)), (13, .int .i64 cells.length), (14, .int .i64 i), (35, Zu q.fams), (36, .int .i64 q.fams.length), (37, .int .i64 j)] ∧ H' = H1.put n1 (some (.arr 0 4 [Zr x])) ∧ n' = n1 + 1) (fun T' _ _ => q.fams.length - iv (T' 37)) ?_ ?_
    ·exact ⟨0, Nat.zero_le _, fun m hm => om, fun h => List.length_eq_zero_iff.1 h.symm, rfl, rfl, rfl⟩
    rintro T1 H1 n1 ⟨j, hj, hjn, hj0, rfl, rfl, rfl⟩
    refine rg zs [1, 3, 7, 9, 12, 13, 14, 35, 36, 37, 38] ?_
    refine Za fun K5 hK5 => ?_
    refine Zb ?_ ?_ <;> intro hb
    ·have hjl : j < q.fams.length := ott
     have hnf : nth (q.fams.map fun x : Int => (.int .i64 x : AV)) j = .int .i64 (q.fams.getD j default) := Zx (fun x : Int => (.int .i64 x : AV)) q.fams j hjl
     have hs : IntKind.i64.wrap ((j : Int) + 1) = ((j + 1 : Nat) : Int) := w1 om
     have hs2 : IntKind.i64.wrap ((q.fams.length : Int) - 1) = ((q.fams.length - 1 : Nat) : Int) := by rw [w64 om om]; omega
     refine ak ?_
     apply hK5
     refine bk fun K6 hK6 => ?_
     refine rg zs [1, 3, 7, 9, 10, 11, 12, 13, 14, 35, 36, 37] ?_
     refine Za fun K7 hK7 => ?_
     refine rg zs [1, 3, 7, 9, 10, 12, 13, 14, 35, 36, 37, 45] ?_
     refine Zb ?_ ?_ <;> intro hb
     ·have hin : U2 q.fams x.fam = true := inFams_go hjl osb
      refine ax ?_
      refine ns ?_
      exact hin
     have hne : q.fams.getD j default ≠ x.fam := osb
     refine ak ?_
     apply hK7
     refine rg zs [1, 3, 7, 9, 12, 13, 14, 35, 36, 37, 51] ?_
     refine Zb ?_ ?_ <;> intro hb
     ·have hno : XT q t x = false := by
        rw [hye]
        refine inFams_no (fun e => by rw [e] at hjl; cases hjl) fun m hm => ?_
        have h9 : j = q.fams.length - 1 := by have h9 := hb; simp at h9; omega
        rcases Nat.lt_or_ge m j with h | h
        ·exact hjn m h
        ·rw [show m = j by omega]; exact hne
      refine ax ?_
      refine ns ?_
      exact ⟨ver, els, ks, rfl, hC.skip hsn hno (fun k hk => Pi _ _ om) om⟩
     have h9 : j ≠ q.fams.length - 1 := by have h9 := hb; simp at h9; omega
     refine ak ?_
     apply hK6
     refine rg1 zs [1, 3, 7, 9, 12, 13, 14, 35, 36, 37] ?_
     exact ⟨⟨j + 1, om, fun m hm => (by rcases Nat.lt_or_ge m j with h | h; exact hjn m h; rw [show m = j by omega]; exact hne), fun h => by omega, rfl⟩, by omega⟩
    have hin : U2 q.fams x.fam = true := by have : q.fams = [] := hj0 otf; rw [this]; rfl
    refine ax ?_
    refine ns ?_
    exact hin
   rintro T2 H2 n2 ⟨rfl, hin, rfl, rfl⟩
   have hyes : XT q t x = true := hye.trans hin
   refine dx1 zs [1, 3, 7, 12, 13, 14] [.m, .q, .q, .q, .q, .w [1, 2, 6, 7, 8, 9], .q, .q, .q, .q, .w [1, 2, 6, 7], .q, .q, .w [], .q] [0, 1, 2, 3, 4, 6, 7, 8, 9, 5, 10, 11, 12, 13, 14] [0, 1, 2, 3, 4, 9, 5, 6, 7, 8, 10, 11, 12, 13, 14] fun K V => ?_
   refine cK func53 (YT x.qual hcb1.1 _ _) ?_ ?_
   ·intro p H' n' hc; exact hc.pan.elim
   intro rr H5 n5 hc
   obtain ⟨js, hN⟩ := hc.got
   have hs := fun g => hN.own.strip g
   have l1 := (hN.low n1 om).trans (Pk _ _ _)
   have hn5 := hN.nn
   obtain ⟨z1, z2, z3⟩ := hN.own.sl_sz
   refine nz ?_
   refine cK func53 (YT x.value hcb1.2 _ _) ?_ ?_
   ·intro p H' n' hc; exact hc.pan.elim
   intro r2 H6 n6 hc
   obtain ⟨js2, hN2⟩ := hc.got
   have hs2 := fun g => hN2.own.strip g
   obtain ⟨z4, z5, z6⟩ := hN2.own.sl_sz
   have l2 := (hN2.low n1 om).trans l1
   have l3 : H6 (n + 1) = some (.arr ver 4 els) := (hN2.low _ om).trans ((hN.low _ om).trans ((Pi _ _ om).trans hL))
   refine nz ?_
   apply V; clear V K
   refine ns ?_
   refine ns ?_
   first
   | (rw [List.take_of_length_le (Nat.le_refl els.length)]
      have hn6 := hN2.nn
      refine ⟨ver + 1, _, ks ++ (js ++ js2), by rw [List.length_append]; rfl, hC.add hsn hyes (fun k hk hne => ?_) om (Pk _ _ _) (own_cel x (hN.own.frame fun k hk => ?_) (hN2.own.frame fun k hk => ?_)) (List.nodup_append.2 ⟨hN.nd, hN2.nd, fun a ha b hb e => by have := hN.lo a ha; have := hN2.lo b hb; omega⟩) (fun k hk => ?_)⟩
      ·rw [Pi _ _ hne, hN2.low k om, hN.low k om, Pi _ _ om]
      ·have := hN.lo k hk; rw [Pi _ _ om, hN2.low k om]
      ·have := hN2.lo k hk; rw [Pi _ _ om]
      ·rcases List.mem_append.1 hk with h | h
       ·have := hN.lo k h; omega
       ·have := hN2.lo k h; omega)
  rintro T9 H9 n9 ⟨ver9, els9, ks9, rfl, hC9⟩
  refine rg1 zs [1, 3, 7, 12, 13, 14] ?_
  exact ⟨⟨i + 1, _, _, _, om, rfl, hC9⟩, om⟩
 have hge : i = cells.length := otf
 refine ax ?_
 apply hK2
 refine rg zs [6] ?_
 refine ar ?_
 subst hge
 have hp := hC.hp
 rw [List.take_of_length_le (Nat.le_refl _)] at hp
 obtain ⟨o1, o2, o3⟩ := Pile.list (len := els.length) (els := els) (by rw [List.take_of_length_le (Nat.le_refl _)]; exact hp) hL (Nat.le_refl _) om
 exact ⟨_, _, rfl, o1, o2, fun k hk => by have := o3 k hk; omega, hC.low, om⟩
def qaX (q : QryE) (f t m p k : AV) : AV := .agg [f, t, m, p, .int .i64 q.time, .int .i64 q.n, .int .i64 q.rows, .bool q.rev, .str q.whr, k]
structure QL (ks : List Nat) (H : Heap) (q : QryE) (f t m p k : AV) : Prop where
 f : LSl ks H f 1 (q.frm.map Zd)
 t : LSl ks H t 1 (q.to.map Zd)
 m : LSl ks H m 1 (q.fams.map fun n => .int .i64 n)
 p : LSl ks H p 1 (q.pre.map Zd)
 k : LSl ks H k 1 (q.token.map Zd)
section
variable {ks : List Nat} {H : Heap} {q : QryE} {f t m p k : AV}
theorem QL.on {H' : Heap} (h : QL ks H q f t m p k) (hk : ∀ j ∈ ks, H' j = H j) : QL ks H' q f t m p k := ⟨h.f.on hk, h.t.on hk, h.m.on hk, h.p.on hk, h.k.on hk⟩
theorem QL.frz (h : QL ks H q f t m p k) : Frz H 0 (qaX q f t m p k) (Zg q) :=
 .agg (.cons h.f.l.frz (.cons h.t.l.frz (.cons h.m.l.frz (.cons h.p.l.frz (.cons (.kl trivial) (.cons (.kl trivial) (.cons (.kl trivial) (.cons (.kl trivial) (.cons (.kl trivial) (.cons h.k.l.frz .nil))))))))))
theorem QL.sz (h : QL ks H q f t m p k) : (qaX q f t m p k).sz = 10 := by simp [qaX, AV.sz, AV.szs, h.f.sz, h.t.sz, h.m.sz, h.p.sz, h.k.sz]
theorem QL.ro (q : QryE) (H : Heap) : QL [] H q (bys q.frm) (bys q.to) (Zu q.fams) (bys q.pre) (bys q.token) := ⟨.ro (Z0 _ _), .ro (Z0 _ _), .ro (kl_nums _ _), .ro (Z0 _ _), .ro (Z0 _ _)⟩
theorem l_query_Check (fs : List Fml) (hfs : fs.length ≤ 1048576) (hq : q.fine) {n : Nat} (hG : GOK 1 1 H n) (h : QL ks H q f t m p k) : Ret prog 34 [Zi fs, qaX q f t m p k] H n (.int .i64 (qcE fs q)) H n :=
 PS (H0 := HQ) (VK hG) (.cons (.kl (kl_sch fs 0)) (.cons h.frz .nil)) trivial (c_query_Check fs hfs q hq (JL hG.gek hG.get))
theorem l_query_At (hq : q.fine) (clock : Int) {n : Nat} (hG : GOK 1 1 H n) (h : QL ks H q f t m p k) : Ret prog 36 [qaX q f t m p k, .int .i64 clock] H n (.tup [.int .i64 (atE q clock).1, .int .i64 (atE q clock).2]) H n :=
 PS (H0 := HQ) (VK hG) (.cons h.frz (.cons (.kl trivial) .nil)) ⟨trivial, trivial, trivial⟩ (NV q hq clock (JL hG.gek hG.get))
theorem Nh (hq : q.fine) {n : Nat} (hG : GOK 1 1 H n) (h : QL ks H q f t m p k) : Zn prog 24 [qaX q f t m p k] H n (OAns H n (XN q)) :=
 OAns.lend (VK hG) (.cons h.frz .nil) (o_query_Start q hq (JL hG.gek hG.get))
theorem Uh (hq : q.fine) {n : Nat} (hG : GOK 1 1 H n) (h : QL ks H q f t m p k) : Ret prog 24 [qaX q f t m p k] H n (XN q) H n := OAns.fin (Nh hq hG h)
theorem L6 (h : QL ks H q f t m p k) {js : List Nat} {ra : AV} {row : List UInt8} (hr : LSl js H ra 1 (row.map Zd)) (last : Option (List UInt8)) (hl : ∀ l, last = some l → l ≠ []) (start : List UInt8) (has : Bool) (n : Nat) : Ret prog 52 [qaX q f t m p k, ra, Nk last, bys start, .bool has] H n (.bool (YR q row last start has)) H n :=
 Ret.lend trivial (.cons h.frz (.cons hr.l.frz (.cons (.kl (by cases last; trivial; exact WM _ _)) (.cons (.kl (WM _ _)) (.cons (.kl trivial) .nil))))) (Ma q row last hl start has _ _)
theorem Qd {js is : List Nat} {a b : AV} {x y : List UInt8} (ha : LSl js H a 1 (x.map Zd)) (hb : LSl is H b 1 (y.map Zd)) (n : Nat) : Ret prog 54 [a, b] H n (.int .i64 (Lib.compareBytes x y)) H n :=
 Ret.lend trivial (.cons ha.l.frz (.cons hb.l.frz .nil)) (Yb x y _ _)
theorem Ni {js : List Nat} {a : AV} {x : List UInt8} (ha : LSl js H a 1 (x.map Zd)) (hx : x.length ≤ 1099511627776) (n : Nat) : Zn prog 53 [a] H n (OAns H n (bys x)) :=
 OAns.lend (KC.none H) (.cons ha.l.frz .nil) (YT x hx _ _)
theorem kl_optAV (t : Option Tst) (n : Nat) : (V7 t).kl n := by cases t; trivial; exact Xb _ _
theorem LZ (h : QL ks H q f t m p k) (hqf : q.fams.length ≤ 1048576) (tt : Option Tst) {js : List Nat} {ca : AV} {cells : List CelE} (hc : LSl js H ca 4 (cells.map Zr)) (hcl : cells.length ≤ 1048576) (hcb : ∀ c ∈ cells, c.qual.length ≤ 1099511627776 ∧ c.value.length ≤ 1099511627776) (n : Nat) :
   Zn prog 55 [qaX q f t m p k, V7 tt, ca] H n (OAns H n (.sl 4 ((Yy q tt cells).map Zr))) :=
 OAns.lend (KC.none H) (.cons h.frz (.cons (.kl (kl_optAV tt 0)) (.cons hc.l.frz .nil))) (M8 q hqf tt cells hcl hcb _ _)
theorem Ng (hq : q.fine) {n : Nat} (hG : GOK 1 1 H n) (h : QL ks H q f t m p k) (time : Int) (row : List UInt8) (hr : row.length ≤ 256) : Zn prog 56 [.agg [.int .i64 time, bys row], qaX q f t m p k] H n (OAns H n (bys (tokB q time row))) :=
 OAns.lend (VK hG) (.cons (.kl ⟨trivial, WM _ _, trivial⟩) (.cons h.frz .nil)) (Vi q hq time row hr (JL hG.gek hG.get))
end
end Go.Proofs.YtkmkbndcekklmaaGreatDoor
set_option maxRecDepth 10000
namespace Go.Proofs.YtkmkbndcekklmaaGreatDoor
open Go Go.Sx Go.Rt Go.Proofs
structure RnS (fs : List Fml) (qa : AV) (rows : List RowE) (err : Int) (ks kw kt lo m n0 : Nat) (acc : List RowE) (ver : Nat) (els : List AV) (pk : List Nat) (vw vt : Nat) (kb : List (Nat × List UInt8)) (tels : List AV) (tk : List Nat) (H0 H : Heap) (n : Nat) : Prop where
 hs : H n0 = some (.arr 0 1 [Zi fs])
 hq : H (n0 + 1) = some (.arr 0 10 [qa])
 hz : H (n0 + 2) = some (.arr 0 3 [.agg [.nilsl, .nilsl, .bool false]])
 hp : H (n0 + 3) = some (.arr 0 3 [.agg [.osl (n0 + 4) ver 0 els.length, .nilsl, .bool false]])
 hl : H (n0 + 4) = some (.arr ver 2 els)
 pile : Pile (n0 + 5) els (acc.map Ze) pk H n
 src : SrcS rows err ks kw kt lo m vw vt kb tels tk H n
 tkd : ∀ k ∈ tk, n0 + 5 ≤ k ∧ k ∉ pk
 low : ∀ k, k < n0 → k ≠ ks → k ≠ kw → k ≠ kt → H k = H0 k
 lt : n0 + 5 ≤ n ∧ lo ≤ n0
 b : tels.length ≤ m ∧ kb.length ≤ m * 2097153 ∧ els.length ≤ m
section
variable {fs : List Fml} {qa : AV} {rows : List RowE} {err : Int} {ks kw kt lo m n0 : Nat} {acc : List RowE} {ver : Nat} {els : List AV} {pk : List Nat} {vw vt : Nat} {kb : List (Nat × List UInt8)} {tels : List AV} {tk : List Nat} {H0 H : Heap} {n : Nat}
theorem RnS.on (h : RnS fs qa rows err ks kw kt lo m n0 acc ver els pk vw vt kb tels tk H0 H n) {H2 : Heap} {n2 : Nat} (hH : ∀ k, k < n → H2 k = H k) (hn : n ≤ n2) : RnS fs qa rows err ks kw kt lo m n0 acc ver els pk vw vt kb tels tk H0 H2 n2 := by
 obtain ⟨d1, d2, d3, d4, d5, d6, d7⟩ := h.src.d
 have hlt := h.lt
 exact {
   hs := (hH _ om).trans h.hs
   hq := (hH _ om).trans h.hq
   hz := (hH _ om).trans h.hz
   hp := (hH _ om).trans h.hp
   hl := (hH _ om).trans h.hl
   pile := h.pile.on (fun k _ a => hH k a) hn
   src := h.src.on (fun k hk => hH k (by rcases hk with rfl | rfl | rfl | hk; omega; omega; omega; exact (h.src.told.lo k hk).2)) hn
   tkd := h.tkd
   low := fun k a b c d => (hH k om).trans (h.low k a b c d)
   lt := om
   b := h.b }
theorem RnS.next (h : RnS fs qa rows err ks kw kt lo m n0 acc ver els pk vw vt kb tels tk H0 H n) {H2 : Heap} {n2 vw2 vt2 : Nat} {kb2 : List (Nat × List UInt8)} {tels2 : List AV} {tk2 : List Nat} (hn : n ≤ n2) (hH : ∀ k, k < n → k ≠ ks → k ≠ kw → k ≠ kt → H2 k = H k)
   (hs : SrcS rows err ks kw kt lo (m + 1) vw2 vt2 kb2 tels2 tk2 H2 n2) (htk : ∀ k ∈ tk2, k ∈ tk ∨ n ≤ k) (h1 : tels2.length ≤ m + 1) (h2 : kb2.length ≤ kb.length + 2097153) : RnS fs qa rows err ks kw kt lo (m + 1) n0 acc ver els pk vw2 vt2 kb2 tels2 tk2 H0 H2 n2 := by
 obtain ⟨d1, d2, d3, d4, d5, d6, d7⟩ := h.src.d
 have hlt := h.lt
 have hb := h.b
 exact {
   hs := (hH _ om om om om).trans h.hs
   hq := (hH _ om om om om).trans h.hq
   hz := (hH _ om om om om).trans h.hz
   hp := (hH _ om om om om).trans h.hp
   hl := (hH _ om om om om).trans h.hl
   pile := h.pile.on (fun k a b => hH k b om om om) hn
   src := hs
   tkd := fun k hk => by
     rcases htk k hk with h9 | h9
     ·exact h.tkd k h9
     ·exact ⟨om, fun hm => by have := h.pile.lo k hm; omega⟩
   low := fun k a b c d => (hH k om b c d).trans (h.low k a b c d)
   lt := om
   b := by omega }
theorem RnS.add (h : RnS fs qa rows err ks kw kt lo m n0 acc ver els pk vw vt kb tels tk H0 H n) (hel : els.length + 1 ≤ m) {H2 : Heap} {n2 : Nat} {a : AV} {r : RowE} {js : List Nat} (hn : n ≤ n2) (hH : ∀ k, k < n → k ≠ n0 + 3 → k ≠ n0 + 4 → H2 k = H k)
   (hp : H2 (n0 + 3) = some (.arr 0 3 [.agg [.osl (n0 + 4) (ver + 1) 0 (els.length + 1), .nilsl, .bool false]])) (hl : H2 (n0 + 4) = some (.arr (ver + 1) 2 (els ++ [a]))) (ho : Own H2 a (Ze r) js) (hd : js.Nodup) (hj : ∀ k ∈ js, n ≤ k ∧ k < n2) :
   RnS fs qa rows err ks kw kt lo m n0 (acc ++ [r]) (ver + 1) (els ++ [a]) (pk ++ js) vw vt kb tels tk H0 H2 n2 := by
 obtain ⟨d1, d2, d3, d4, d5, d6, d7⟩ := h.src.d
 have hlt := h.lt
 have hb := h.b
 exact {
   hs := (hH _ om om om).trans h.hs
   hq := (hH _ om om om).trans h.hq
   hz := (hH _ om om om).trans h.hz
   hp := by rw [List.length_append]; exact hp
   hl := hl
   pile := by rw [List.map_append]; exact h.pile.add (fun k a b => hH k b om om) ho hd hj om hn
   src := h.src.on (fun k hk => by
     rcases hk with rfl | rfl | rfl | hk
     ·exact hH _ om om om
     ·exact hH _ om om om
     ·exact hH _ om om om
     ·have := h.tkd k hk; exact hH k (h.src.told.lo k hk).2 om om) hn
   tkd := fun k hk => ⟨(h.tkd k hk).1, fun hm => by
     rcases List.mem_append.1 hm with h9 | h9
     ·exact (h.tkd k hk).2 h9
     ·have := hj k h9; have := (h.src.told.lo k hk).2; omega⟩
   low := fun k a b c d => (hH k om om om).trans (h.low k a b c d)
   lt := om
   b := by rw [List.length_append]; simp only [List.length_cons, List.length_nil]; omega }
end
def RunK (rows : List RowE) (err : Int) (ks kw kt lo : Nat) (z : PgE × Nat × Int) (H : Heap) (n : Nat) (res : ARes) (H' : Heap) (n' : Nat) : Prop :=
 n ≤ n' ∧ (∀ k, k < n → k ≠ ks → k ≠ kw → k ≠ kt → H' k = H k) ∧ ∃ a pk vw vt kb tels tk, res = .val (.tup [a, .int .i64 z.2.2]) ∧ Own H' a (pgAV z.1) pk ∧ pk.Nodup ∧ (∀ k ∈ pk, n ≤ k ∧ k < n') ∧ SrcS rows err ks kw kt lo z.2.1 vw vt kb tels tk H' n' ∧ kb.length ≤ z.2.1 * 2097153 ∧ ∀ k ∈ tk, n ≤ k ∧ k ∉ pk
theorem own_pg {H : Heap} {a b : AV} {p : PgE} {ks js : List Nat} (h1 : Own H a (.sl 2 (p.rows.map Ze)) ks) (h2 : Own H b (bys p.token) js) : Own H (.agg [a, b, .bool p.done]) (pgAV p) (ks ++ js) := by
 have := Own.agg (.cons h1 (.cons h2 (.cons (.nk (a := .bool p.done) trivial) .nil)))
 simpa [pgAV] using this
theorem RunK.none {rows : List RowE} {err : Int} {ks kw kt lo m vw vt : Nat} {kb : List (Nat × List UInt8)} {tels : List AV} {tk : List Nat} {z : PgE × Nat × Int} {H H' : Heap} {n n' : Nat} {e : Int} (hz : z = (pgZ, m, e)) (hn : n ≤ n') (hH : ∀ k, k < n → k ≠ ks → k ≠ kw → k ≠ kt → H' k = H k)
   (hs : SrcS rows err ks kw kt lo m vw vt kb tels tk H' n') (hkb : kb.length ≤ m * 2097153) (htk : ∀ k ∈ tk, n ≤ k) : RunK rows err ks kw kt lo z H n (.val (.tup [.agg [.nilsl, .nilsl, .bool false], .int .i64 e])) H' n' := by
 subst hz
 exact ⟨hn, hH, _, [], vw, vt, kb, tels, tk, rfl, own_pg (p := pgZ) .nilsl .nilsl, List.nodup_nil, fun k hk => by simp at hk, hs, hkb, fun k hk => ⟨htk k hk, osi⟩⟩
theorem RnS.none {fs : List Fml} {qa : AV} {rows : List RowE} {err : Int} {ks kw kt lo m n0 : Nat} {acc : List RowE} {ver : Nat} {els : List AV} {pk : List Nat} {vw vt : Nat} {kb : List (Nat × List UInt8)} {tels : List AV} {tk : List Nat} {H0 H : Heap} {n : Nat} (h : RnS fs qa rows err ks kw kt lo m n0 acc ver els pk vw vt kb tels tk H0 H n)
   {z : PgE × Nat × Int} {e : Int} (hz : z = (pgZ, m, e)) {H2 : Heap} {n2 : Nat} (hn : n ≤ n2) (hH : ∀ k, k < n → k ≠ n0 + 2 → H2 k = H k) : RunK rows err ks kw kt lo z H0 n0 (.val (.tup [.agg [.nilsl, .nilsl, .bool false], .int .i64 e])) H2 n2 := by
 obtain ⟨d1, d2, d3, d4, d5, d6, d7⟩ := h.src.d
 have hlt := h.lt
 refine RunK.none hz om (fun k a b c d => (hH k om om).trans (h.low k a b c d)) (h.src.on (fun k hk => ?_) hn) h.b.2.1 (fun k hk => by have := h.tkd k hk; omega)
 rcases hk with rfl | rfl | rfl | hk
 ·exact hH _ om om
 ·exact hH _ om om
 ·exact hH _ om om
 ·have := h.tkd k hk; exact hH k (h.src.told.lo k hk).2 om
theorem RnS.done {fs : List Fml} {qa : AV} {rows : List RowE} {err : Int} {ks kw kt lo m n0 : Nat} {acc : List RowE} {ver : Nat} {els : List AV} {pk : List Nat} {vw vt : Nat} {kb : List (Nat × List UInt8)} {tels : List AV} {tk : List Nat} {H0 H : Heap} {n : Nat} (h : RnS fs qa rows err ks kw kt lo m n0 acc ver els pk vw vt kb tels tk H0 H n)
   {z : PgE × Nat × Int} {tok : List UInt8} {dn : Bool} (hz : z = (⟨acc, tok, dn⟩, m, 0)) {H2 : Heap} {n2 : Nat} {b : AV} {js : List Nat} (hn : n ≤ n2) (hH : ∀ k, k < n → k ≠ n0 + 2 → k ≠ n0 + 3 → H2 k = H k) (ho : Own H2 b (bys tok) js) (hd : js.Nodup) (hj : ∀ k ∈ js, n ≤ k ∧ k < n2) :
   RunK rows err ks kw kt lo z H0 n0 (.val (.tup [.agg [.osl (n0 + 4) ver 0 els.length, b, .bool dn], .int .i64 0])) H2 n2 := by
 subst hz
 obtain ⟨d1, d2, d3, d4, d5, d6, d7⟩ := h.src.d
 have hlt := h.lt
 have hp2 : Pile (n0 + 4 + 1) (els.take els.length) (acc.map Ze) pk H2 n := by rw [List.take_of_length_le (Nat.le_refl _)]; exact h.pile.on (fun k a b => hH k b om om) (Nat.le_refl _)
 obtain ⟨o1, o2, o3⟩ := hp2.list ((hH _ om om om).trans h.hl) (Nat.le_refl _) om
 refine ⟨om, fun k a b c d => (hH k om om om).trans (h.low k a b c d), _, _, vw, vt, kb, tels, tk, rfl, own_pg (p := ⟨acc, tok, dn⟩) o1 ho, List.nodup_append.2 ⟨o2, hd, fun a ha b hb e => by have := o3 a ha; have := hj b hb; omega⟩, fun k hk => ?_, h.src.on (fun k hk => ?_) hn, h.b.2.1, fun k hk => ⟨by have := h.tkd k hk; omega, fun hm => ?_⟩⟩
 ·rcases List.mem_append.1 hk with h9 | h9
  ·have := o3 k h9; omega
  ·have := hj k h9; omega
 ·rcases hk with rfl | rfl | rfl | hk
  ·exact hH _ om om om
  ·exact hH _ om om om
  ·exact hH _ om om om
  ·have := h.tkd k hk; exact hH k (h.src.told.lo k hk).2 om om
 ·have h8 := h.tkd k hk
  rcases List.mem_append.1 hm with h9 | h9
  ·rcases List.mem_cons.1 h9 with e | h9
   ·omega
   ·exact h8.2 h9
  ·have := hj k h9; have := (h.src.told.lo k hk).2; omega
end Go.Proofs.YtkmkbndcekklmaaGreatDoor
set_option maxRecDepth 10000
namespace Go.Proofs.YtkmkbndcekklmaaGreatDoor
open Go Go.Sx Go.Rt Go.Proofs Tryz
def Yh (rows : List RowE) : Prop := rows.length ≤ 1048576 ∧ ∀ x ∈ rows, x.row.length ≤ 1099511627776 ∧ x.cells.length ≤ 1048576 ∧ ∀ c ∈ x.cells, c.qual.length ≤ 1099511627776 ∧ c.value.length ≤ 1099511627776
theorem U0 (l : Option (List UInt8)) (g : Bool) : strip g (Nk l) = Nk l := by cases l <;> cases g <;> rfl
theorem parse_ok {fs : List Fml} {q : QryE} (h : qcE fs q = 0) (h0 : 0 < q.whr.length) : ∃ x, WF fs q.whr = .ok x := by
 unfold qcE at h
 by_cases h1 : Zv fs ≠ 0
 ·rw [if_pos h1] at h; exact absurd h h1
 rw [if_neg h1] at h
 by_cases h2 : Yk fs.length q = false
 ·rw [if_pos h2] at h; exact absurd h odc
 rw [if_neg h2] at h
 by_cases h3 : 0 < q.whr.length ∧ (Y5 fs q.whr).2.1 ≠ 0
 ·rw [if_pos h3] at h; exact absurd h h3.2
 ·have h4 : (Y5 fs q.whr).2.1 = 0 := Classical.byContradiction fun e => h3 ⟨h0, e⟩
  unfold Y5 at h4
  rw [if_neg h1] at h4
  cases hp : WF fs q.whr with
  | ok x => exact ⟨x, rfl⟩
  | error a => rw [hp] at h4; simp at h4
theorem testQ_none {fs : List Fml} {q : QryE} (h : ¬ 0 < q.whr.length) : Yv fs q = none := by unfold Yv; rw [if_pos om]
theorem testQ_some {fs : List Fml} {q : QryE} (h : 0 < q.whr.length) {x : Tst × List UInt8} (hx : WF fs q.whr = .ok x) : Yv fs q = some x.1 := by unfold Yv; rw [if_neg om, hx]
def Mr : Option AObj → Nat
 | some (.arr _ _ [.agg [_, _, .int _ m, _, _]]) => m.toNat
 | _ => 0
theorem QZ {rows : List RowE} {err : Int} {m kw vw lw kt vt lt : Nat} : Mr (some (.arr 0 5 [Uz rows err m kw vw lw kt vt lt])) = m := by simp [Mr, Uz]
section
variable {rows : List RowE} {err : Int} {ks kw kt lo m : Nat} {kb : List (Nat × List UInt8)} {tk : List Nat} {H H' : Heap} {n n' : Nat}
theorem KA.pan {p : AV} (h : KA rows err ks kw kt lo m kb tk H n (.pan p) H' n') : False := by
 obtain ⟨_, _, h⟩ := h
 split at h
 ·obtain ⟨k1, k2, v2, js, vw, vt, kb2, tels, tk2, e, _⟩ := h; cases e
 ·obtain ⟨vw, vt, tels, e, _⟩ := h; cases e
theorem KA.told {r : AV} (h : KA rows err ks kw kt lo m kb tk H n (.val r) H' n') (hl : m < rows.length) : ∃ k1 k2 v2 js vw vt kb2 tels tk2, r = .tup [.agg [.osl k1 2 0 (rows.getD m default).row.length, .osl k2 v2 0 (rows.getD m default).cells.length], .bool true, .int .i64 0] ∧ Own H' (.agg [.osl k1 2 0 (rows.getD m default).row.length, .osl k2 v2 0 (rows.getD m default).cells.length]) (Ze (rows.getD m default)) js ∧ (∀ k ∈ js, n ≤ k ∧ k < n') ∧ SrcS rows err ks kw kt lo (m + 1) vw vt kb2 tels tk2 H' n' ∧ (∀ k ∈ tk2, k ∈ tk ∨ n ≤ k) ∧ tels.length ≤ m + 1 ∧ kb2.length ≤ kb.length + 1 + 2 * (rows.getD m default).cells.length := by
 obtain ⟨_, _, h⟩ := h
 rw [if_pos hl] at h
 obtain ⟨k1, k2, v2, js, vw, vt, kb2, tels, tk2, e, h⟩ := h
 cases e
 exact ⟨k1, k2, v2, js, vw, vt, kb2, tels, tk2, rfl, h⟩
theorem KA.past {r : AV} (h : KA rows err ks kw kt lo m kb tk H n (.val r) H' n') (hl : rows.length ≤ m) : ∃ vw vt tels, r = .tup [.agg [.nilsl, .nilsl], .bool false, .int .i64 err] ∧ SrcS rows err ks kw kt lo (m + 1) vw vt kb tels tk H' n' ∧ tels.length ≤ m + 1 := by
 obtain ⟨_, _, h⟩ := h
 rw [if_neg om] at h
 obtain ⟨vw, vt, tels, e, h⟩ := h
 cases e
 exact ⟨vw, vt, tels, rfl, h⟩
end
theorem Own.agg2 {H : Heap} {a b c d : AV} {ks : List Nat} (h : Own H (.agg [a, b]) (.agg [c, d]) ks) : ∃ k1 k2, ks = k1 ++ k2 ∧ Own H a c k1 ∧ Own H b d k2 := by
 cases h with
 | nk h => exact h.elim
 | agg h =>
   cases h with
   | cons h1 h2 =>
     cases h2 with
     | cons h3 h4 => cases h4 with | nil => exact ⟨_, _, osi, h1, h3⟩
theorem Own.osl_inv {H : Heap} {k v len e : Nat} {ys : List AV} {ks : List Nat} (h : Own H (.osl k v 0 len) (.sl e ys) ks) : ∃ els js, ks = k :: js ∧ H k = some (.arr v e els) ∧ len ≤ els.length ∧ OwnL H (els.take len) ys js := by
 cases h with
 | osl h1 h2 h3 => exact ⟨_, _, rfl, h1, h2, h3⟩
theorem own_cel_inv {H : Heap} {a : AV} {c : CelE} {ks : List Nat} (h : Own H a (Zr c) ks) : ∃ b d, a = .agg [.int .i64 c.fam, b, .int .i64 c.ts, d] ∧ b.sz = 1 ∧ d.sz = 1 ∧ b.memOK = true ∧ d.memOK = true ∧ b.isAgg = false ∧ d.isAgg = false := by
 generalize hb : Zr c = x at h
 cases h with
 | nk h => subst hb; exact h.elim
 | nilsl => cases hb
 | osl => cases hb
 | tup => cases hb
 | agg h =>
   cases hb
   cases h with
   | cons h1 h2 => cases h2 with | cons h3 h4 => cases h4 with | cons h5 h6 => cases h6 with | cons h7 h8 => cases h8 with | nil =>
     cases h1 with | nk _ => cases h5 with | nk _ =>
     exact ⟨_, _, rfl, h3.sl_sz.1, h7.sl_sz.1, h3.sl_sz.2.2, h7.sl_sz.2.2, h3.sl_sz.2.1, h7.sl_sz.2.1⟩
theorem own_row {H : Heap} {a b : AV} {r : RowE} {ks js : List Nat} (h1 : Own H a (bys r.row) ks) (h2 : Own H b (.sl 4 (r.cells.map Zr)) js) : Own H (.agg [a, b]) (Ze r) (ks ++ js) := by
 have := Own.agg (.cons h1 (.cons h2 .nil))
 simpa [Ze] using this
theorem drop_at2 {α : Type} [Inhabited α] (l : List α) {i : Nat} (h : i < l.length) : l.drop i = l.getD i default :: l.drop (i + 1) := X4 l i h
theorem famsOut_take {nf : Nat} {l : List CelE} (h : ∀ j, j < l.length → bout (l.getD j default).fam 0 ((nf : Int) - 1) = false) : WV nf l = false := by
 unfold WV
 rw [List.any_eq_false]
 intro c hc
 obtain ⟨i, hi, he⟩ := List.mem_iff_getElem.1 hc
 have := h i hi
 rw [List.getD, List.getElem?_eq_getElem hi] at this
 simp only [Option.getD_some, he] at this
 simp [this]
theorem famsOut_at {nf : Nat} {l : List CelE} {i : Nat} (hi : i < l.length) (h : bout (l.getD i default).fam 0 ((nf : Int) - 1) = true) : WV nf l = true := by
 unfold WV
 rw [List.any_eq_true]
 exact ⟨_, YH l hi, h⟩
theorem NC40.eqs {P Q : Prop} (g : Imp P Q := by (try simp only [go_sem, seval, hszs, hags, hmos, hszq, hagq, hmoq, x1, x2, x3, x4, x5, y1, y2, y3, y4, y5, y6, y7, f1, f2, f3, f4, f5, f6, b1, b2, b3, b6, b9, hrw, hE8, hce, c1, c2, c3, c4, c5, c6, g5, g6, hx1, hs, hql, z1, z3, hs2, z4, z6, hs3, z7, z9, J5, XN, U0, YX, YY, YZ, Yr, Nat.add_assoc, List.length_map, Int.toNat_natCast, V6, qaX]); exact Pm) : Imp P Q := g
theorem NC40.sd {P : Prop} (g : P := by first | (intro _ h9; rw [h9]; rfl) | exact ⟨rfl, by (simp [AV.sz, AV.szs, AV.memOK, z1, z3, z4, z6]; first | done | fail)⟩ | exact ⟨Nat.le_refl _, .inr trivial, om, om⟩ | fail) : P := g
set_option maxRecDepth 100000 in
set_option maxHeartbeats 12800000 in
open NC40 NZ in
theorem x_query_Run (fs : List Fml) (hfs : fs.length ≤ 1048576) (q : QryE) (hqf : q.fine) (clock : Int) (rows : List RowE) (err : Int) (hrw : Yh rows) {kq : List Nat} {f t m0 p k : AV} (ks kw kt lo vw0 vt0 : Nat) {H : Heap} {n : Nat} (hG : GOK 1 1 H n)
   (hQ : QL kq H q f t m0 p k) (hkq : ∀ j ∈ kq, j < n ∧ j ≠ ks ∧ j ≠ kw ∧ j ≠ kt) (hS : SrcS rows err ks kw kt lo 0 vw0 vt0 [] [] [] H n) :
   Zn prog 18 [Zi fs, qaX q f t m0 p k, .int .i64 clock, .iface 52 (.loc ks 0 0 0 [])] H n (RunK rows err ks kw kt lo (runE fs q clock (some (rows, err))) H n) := by
 obtain ⟨hrl, hrb⟩ := hrw
 obtain ⟨d1, d2, d3, d4, d5, d6, d7⟩ := hS.d
 have hgk : 1 ≠ ks ∧ 1 ≠ kw ∧ 1 ≠ kt ∨ (1 : Nat) = 1 := by
   by_cases hne : (1 : Nat) = 1
   ·exact .inr hne
   ·left
    have V := hG.kindsC hne
    exact kbV
 have hgt : 1 ≠ ks ∧ 1 ≠ kw ∧ 1 ≠ kt := by
   have V := hG.table
   exact kbV
 have hGc : ∀ (Hc : Heap) (nc : Nat), (∀ k, k < n → k ≠ ks → k ≠ kw → k ≠ kt → Hc k = H k) → n ≤ nc → GOK 1 1 Hc nc := fun Hc nc hc hn => hG.at2 (by
   rcases hgk with h | h
   ·exact hc _ hG.gek h.1 h.2.1 h.2.2
   ·rw [h]; exact hc _ hG.get hgt.1 hgt.2.1 hgt.2.2) (hc _ hG.get hgt.1 hgt.2.1 hgt.2.2) hn
 have hQc : ∀ (Hc : Heap), (∀ k, k < n → k ≠ ks → k ≠ kw → k ≠ kt → Hc k = H k) → QL kq Hc q f t m0 p k := fun Hc hc => hQ.on fun j hj => by have := hkq j hj; exact hc j this.1 this.2.1 this.2.2.1 this.2.2.2
 have hszs : (Zi fs).sz = 1 := rfl
 have hags : (Zi fs).isAgg = true := rfl
 have hmos : (Zi fs).memOK = true := rfl
 have hszq : (qaX q f t m0 p k).sz = 10 := hQ.sz
 have hagq : (qaX q f t m0 p k).isAgg = true := rfl
 have hmoq : (qaX q f t m0 p k).memOK = true := rfl
 obtain ⟨z, hz⟩ : ∃ z, z = runE fs q clock (some (rows, err)) := ⟨_, rfl⟩
 rw [← hz]
 unfold runE at hz
 have x1 := hQ.f.sz
 have x2 := hQ.t.sz
 have x3 := hQ.m.sz
 have x4 := hQ.p.sz
 have x5 := hQ.k.sz
 have y1 := hQ.f.st
 have y2 := hQ.t.st
 have y3 := hQ.t.len
 have y4 := hQ.f.ag
 have y5 := hQ.t.ag
 have y6 := hQ.f.mo
 have y7 := hQ.t.mo
 have f1 : (n = n + 1) = False := osi
 have f2 : (n + 1 = n + 2) = False := osi
 have f3 : (n + 1 = n) = False := osi
 have f4 : (n = n + 2) = False := osi
 have f5 : (n + 2 = n + 1) = False := osi
 have f6 : (n + 2 = n) = False := osi
 have b1 := d7
 have b2 := d7
 have b3 := d7
 have b6 := d7
 have b9 := d7
 have hrw := d7
 have hE8 := d7
 have hce := d7
 have c1 := d7
 have c2 := d7
 have c3 := d7
 have c4 := d7
 have c5 := d7
 have c6 := d7
 have g5 := d7
 have g6 := d7
 have hx1 := d7
 have hs := d7
 have hql := d7
 have z1 := d7
 have z3 := d7
 have hs2 := d7
 have z4 := d7
 have z6 := d7
 have hs3 := d7
 have z7 := d7
 have z9 := d7
 refine fw func18 ntmps18 results18 ?_
 refine rg zs [2, 3, 4, 5, 8] ?_
 refine Za fun K1 hK1 => ?_
 refine rk zs [2, 3, 4, 5, 8, 10] fun K V => ?_
 refine ck func34 ((l_query_Check fs hfs hqf (hGc _ _ (fun k h1 h2 h3 h4 => oh) om) (hQc _ (fun k h1 h2 h3 h4 => oh)))) ?_
 apply V; clear V K
 refine rg zs [2, 3, 4, 5, 8, 10, 30] ?_
 refine Zb ?_ ?_ <;> intro hb
 ·have hc0 : qcE fs q ≠ 0 := osb
  rw [if_pos hc0] at hz
  refine rg zs [8, 9] ?_
  refine ar ?_
  first
  | (refine RunK.none hz om (fun k h1 h2 h3 h4 => ?_) (hS.on (fun k hk => ?_) om) osi (fun k hk => by cases hk)
     ·exact oh
     ·have h9 : k < n := by (rcases hk with rfl | rfl | rfl | hk; omega; omega; omega; cases hk)
      (try simp only [Pj]); (repeat first | rw [if_pos rfl] | rw [if_pos trivial] | rw [if_neg om]))
 have hc0 : qcE fs q = 0 := osb
 rw [if_neg (by simp [hc0])] at hz
 refine ak ?_
 apply hK1
 refine rk zs [3, 4, 5, 8, 11, 12] fun K V => ?_
 refine ck func36 ((l_query_At hqf clock (hGc _ _ (fun k h1 h2 h3 h4 => oh) om) (hQc _ (fun k h1 h2 h3 h4 => oh)))) ?_
 apply V; clear V K
 refine Za fun K2 hK2 => ?_
 refine rg zs [3, 4, 5, 8, 11, 44] ?_
 refine Zb ?_ ?_ <;> intro hb
 ·have ha0 : (atE q clock).2 ≠ 0 := osb
  rw [if_pos ha0] at hz
  refine rg zs [8, 9] ?_
  refine ar ?_
  first
  | (refine RunK.none hz om (fun k h1 h2 h3 h4 => ?_) (hS.on (fun k hk => ?_) om) osi (fun k hk => by cases hk)
     ·exact oh
     ·have h9 : k < n := by (rcases hk with rfl | rfl | rfl | hk; omega; omega; omega; cases hk)
      (try simp only [Pj]); (repeat first | rw [if_pos rfl] | rw [if_pos trivial] | rw [if_neg om]))
 have ha0 : ¬ (atE q clock).2 ≠ 0 := osb
 rw [if_neg ha0] at hz
 refine ak ?_
 apply hK2
 refine rg zs [3, 4, 5, 8, 11, 13] ?_
 refine ZO (fun H' n' => H' n = some (.arr 0 1 [Zi fs]) ∧ H' (n + 1) = some (.arr 0 10 [qaX q f t m0 p k]) ∧ H' (n + 2) = some (.arr 0 3 [.agg [.nilsl, .nilsl, .bool false]]) ∧ (∀ k, k < n → H' k = H k) ∧ n' = n + 3) ⟨ohr, ohr, oh, fun k hk => oh, rfl⟩ fun Hb nb ⟨b1, b2, b3, b4, b5⟩ => ?_
 subst b5
 refine ZQ [3, 4, 5, 8, 11, 13] (fun T' H' n' => T' = tl [(3, .iface 52 (.loc ks 0 0 0 [])), (4, .loc n 0 0 0 []), (5, .loc (n + 1) 0 0 0 []), (8, .loc (n + 2) 0 0 0 []), (11, .int .i64 (atE q clock).1), (13, V7 (Yv fs q))] ∧ H' = Hb ∧ n' = n + 3) ?_ ?_
 ·refine rg zs [3, 4, 5, 8, 11, 13, 49] ?_
  refine Zb ?_ ?_ <;> intro hb
  ·have hw0 : 0 < q.whr.length := ott
   obtain ⟨px, hpx⟩ := parse_ok hc0 hw0
   have hT := testQ_some hw0 hpx
   refine rc1 zs [3, 4, 5, 8, 11, 13] func51 ((hpx ▸ Un fs hfs q.whr _ _)) ?_
   refine ns ?_
   rw [hT]; first | done | rfl | exact ⟨rfl, rfl, rfl⟩ | exact ⟨rfl, rfl⟩
  have hT := testQ_none (fs := fs) (q := q) (fun h => otf)
  refine ak ?_
  refine ns ?_
  rw [hT]; first | done | rfl | exact ⟨rfl, rfl, rfl⟩ | exact ⟨rfl, rfl⟩
 rintro T9 H9 n9 ⟨rfl, rfl, rfl⟩
 refine rk zs [3, 4, 5, 8, 11, 13, 14, 15] fun K V => ?_
 refine ck func24 ((Uh hqf (hGc _ _ (fun k h1 _ _ _ => b4 k h1) om) (hQc _ (fun k h1 _ _ _ => b4 k h1)))) ?_
 apply V; clear V K
 refine rg zs [3, 4, 5, 8, 11, 13, 14, 15, 17] ?_
 refine rg zs [3, 4, 5, 8, 11, 13, 14, 15, 17, 18] ?_
 refine Zy ?_
 refine Yq (n + 3) 2 (ver := 0) (e := 3) (els := [.agg [.nilsl, .nilsl, .bool false]]) (els' := [.agg [.osl (n + 4) 0 0 0, .nilsl, .bool false]]) oh ⟨Adp.agg ⟨Adp.nilsl _, .refl _ _, .refl _ _, trivial⟩, trivial⟩ ?_
 refine ZO (fun H' n' => RnS fs (qaX q f t m0 p k) rows err ks kw kt lo 0 n [] 0 [] [] vw0 vt0 [] [] [] H H' n') ?_ fun H6 n6 hR => ?_
 ·refine ⟨?_, ?_, ?_, ?_, ?_, Pile.nil _ _ _, hS.on (fun k hk => ?_) om, fun k hk => (by cases hk), fun k h1 h2 h3 h4 => ?_, om, osi⟩
  ·refine ohx ?_; exact b1
  ·refine ohx ?_; exact b2
  ·refine ohx ?_; exact b3
  ·refine ohx ?_; rfl
  ·exact oh
  ·have h9 : k < n := by (rcases hk with rfl | rfl | rfl | hk; omega; omega; omega; cases hk)
   refine ohx ?_; exact b4 k h9
  ·refine ohx ?_; exact b4 k h1
 refine Zp (fun T' H' n' => ∃ (m : Nat) (last : Option (List UInt8)) (acc : List RowE) (ver : Nat) (els : List AV) (pk : List Nat) (vw vt : Nat) (kb : List (Nat × List UInt8)) (tels : List AV) (tk : List Nat), m ≤ rows.length ∧ T' = tl [(3, .iface 52 (.loc ks 0 0 0 [])), (4, .loc n 0 0 0 []), (5, .loc (n + 1) 0 0 0 []), (8, .loc (n + 2) 0 0 0 []), (11, .int .i64 (atE q clock).1), (13, V7 (Yv fs q)), (14, bys (ZC q).1), (15, .bool (ZC q).2.1), (17, .loc (n + 3) 0 0 0 []), (18, Nk last)] ∧ RnS fs (qaX q f t m0 p k) rows err ks kw kt lo m n acc ver els pk vw vt kb tels tk H H' n' ∧ (∀ l, last = some l → l ≠ []) ∧ runG fs.length q (Yv fs q) (tokB q (atE q clock).1) (ZC q).1 (ZC q).2.1 err m last acc (rows.drop m) = z) (fun _ H' _ => rows.length - Mr (H' ks)) ?_ ?_
 ·exact ⟨0, none, [], 0, [], [], vw0, vt0, [], [], [], Nat.zero_le _, rfl, hR, fun l h => (by cases h), by rw [hz, List.drop_zero]⟩
 rintro T1 H1 n1 ⟨m, last, acc, ver, els, pk, vw, vt, kb, tels, tk, hm, rfl, hR, hlast, hzz⟩
 have hb8 := hR.b
 have hlt8 := hR.lt
 have hask : Mr (H1 ks) = m := by rw [hR.src.ho]; exact QZ
 obtain ⟨Hh, hHh⟩ : ∃ h, h = H1 := ⟨_, rfl⟩
 subst hHh
 obtain ⟨nh, hnh⟩ : ∃ h, h = n1 := ⟨_, rfl⟩
 subst hnh
 refine Zy ?_
 rcases Nat.lt_or_ge m rows.length with hlt | hge
 ·refine LQ zs [3, 4, 5, 8, 11, 13, 14, 15, 17, 18, 19, 20, 21] 1 rfl (by first | trivial | (show _ < _; decide)) fun K V => ?_
  refine nz ?_
  refine nz ?_
  refine callI_use UQ func187 rfl rfl (JU rows err hrl hrb ks kw kt lo m vw vt kb tels tk _ _ hR.src om om om) ?_ ?_
  ·intro p H' n' hc; exact hc.pan.elim
  intro rr H2 n2 hc
  have hn2 := hc.1
  first
  | (obtain ⟨k1, k2, v2, js, vw2, vt2, kb2, tels2, tk2, rfl, ho, hjs, hs2, htk2, hb1, hb2⟩ := hc.told hlt
     have hR2 := hR.next hc.1 hc.2.1 hs2 htk2 hb1 (by have := (hrb _ (YH rows hlt)).2.1; omega)
     have hdr := drop_at2 rows hlt
     have hrx := hrb _ (YH rows hlt)
     generalize rows.getD m default = x at *)
  refine nz ?_
  apply V; clear V K
  refine bk fun K3 hK3 => ?_
  first
  | (refine ZO (fun H' n' => RnS fs (qaX q f t m0 p k) rows err ks kw kt lo (m + 1) n acc ver els pk vw2 vt2 kb2 tels2 tk2 H H' n' ∧ H' n2 = some (.arr 0 2 [.agg [.osl k1 2 0 x.row.length, .osl k2 v2 0 x.cells.length]]) ∧ Own H' (.agg [.osl k1 2 0 x.row.length, .osl k2 v2 0 x.cells.length]) (Ze x) js ∧ n' = n2 + 1) ⟨hR2.on (fun k hk => Pi _ _ om) om, Pk _ _ _, ho.frame (fun k hk => Pi _ _ (by have := hjs k hk; omega)), rfl⟩ fun H7 n7 ⟨hR7, hrw, ho7, hn7⟩ => ?_
     rw [hdr] at hzz; unfold runG at hzz)
  have b1 := hR7.hs
  have b2 := hR7.hq
  have b3 := hR7.hz
  have b6 := hR7.hp
  have b9 := hR7.hl
  refine rg zs [3, 4, 5, 8, 11, 13, 14, 15, 17, 18, 19, 20, 21, 71] ?_
  refine Zb ?_ ?_ <;> intro hb
  ·exact absurd hb osi
  refine rg zs [3, 4, 5, 8, 11, 13, 14, 15, 17, 18, 19, 76] ?_
  refine Zb ?_ ?_ <;> intro hb
  ·exact absurd hb osi
  obtain ⟨j1, j2, hjj, o1, o2⟩ := Own.agg2 ho7
  obtain ⟨els2, js3, hj3, hE, hl2, hL2⟩ := Own.osl_inv o2
  have hj1 : ∀ j ∈ j1, j < n7 := fun j hj => by have := hjs j (by rw [hjj]; simp [hj]); omega
  have hj2 : ∀ j ∈ j2, j < n7 := fun j hj => by have := hjs j (by rw [hjj]; simp [hj]); omega
  have hk2 : k2 < n7 := hj2 k2 (by rw [hj3]; simp)
  have hra := o1.lsl
  have hca := o2.lsl
  have hQ7 := hQc H7 hR7.low
  refine rc zs [3, 4, 5, 8, 11, 13, 14, 15, 17, 19, 81] func52 ((L6 hQ7 hra last hlast (ZC q).1 (ZC q).2.1 _)) ?_
  refine Zb ?_ ?_ <;> intro hb
  ·have hfo : YR q x.row last (ZC q).1 (ZC q).2.1 = false := osb
   rw [if_pos hfo] at hzz
   refine rg zs [8, 9] ?_
   refine ar ?_
   refine hR7.none hzz.symm om (fun k h1 h2 => ?_); exact oh
  have hfo : YR q x.row last (ZC q).1 (ZC q).2.1 = true := osb
  rw [if_neg (by simp [hfo])] at hzz
  have h256 : x.row.length ≠ 0 ∧ x.row.length ≤ 256 := by unfold YR at hfo; by_cases h9 : x.row.length = 0 ∨ 256 < x.row.length; (rw [if_pos h9] at hfo; cases hfo); omega
  refine ak ?_
  apply hK3
  refine Za fun K4 hK4 => ?_
  refine rg zs [3, 4, 5, 8, 11, 13, 14, 15, 17, 19, 92, 93, 94] ?_
  refine Zy ?_
  refine Zp (fun T' H' n' => ∃ i : Nat, i ≤ x.cells.length ∧ (∀ j, j < i → bout (x.cells.getD j default).fam 0 ((fs.length : Int) - 1) = false) ∧ T' = tl [(3, .iface 52 (.loc ks 0 0 0 [])), (4, .loc n 0 0 0 []), (5, .loc (n + 1) 0 0 0 []), (8, .loc (n + 2) 0 0 0 []), (11, .int .i64 (atE q clock).1), (13, V7 (Yv fs q)), (14, bys (ZC q).1), (15, .bool (ZC q).2.1), (17, .loc (n + 3) 0 0 0 []), (19, .loc n2 0 0 0 []), (92, .osl k2 v2 0 x.cells.length), (93, .int .i64 x.cells.length), (94, .int .i64 i)] ∧ (∀ k, k < n7 → H' k = H7 k) ∧ n7 ≤ n') (fun T' _ _ => x.cells.length - iv (T' 94)) ?_ ?_
  ·exact ⟨0, Nat.zero_le _, fun j h => om, rfl, fun _ _ => rfl, Nat.le_refl _⟩
  rintro T1 H1 n1 ⟨i, hi, hfa, rfl, hH8, hn8⟩
  have hR8 := hR7.on hH8 hn8
  have b1 := hR8.hs
  have b2 := hR8.hq
  have b3 := hR8.hz
  have b6 := hR8.hp
  have hrw := (hH8 n2 om).trans hrw
  have hE8 := (hH8 k2 hk2).trans hE
  refine Zf zs [3, 4, 5, 8, 11, 13, 14, 15, 17, 19, 92, 93, 94, 95] fun K V => ?_
  try simp only [go_sem, seval, hszs, hags, hmos, hszq, hagq, hmoq, x1, x2, x3, x4, x5, y1, y2, y3, y4, y5, y6, y7, f1, f2, f3, f4, f5, f6, b1, b2, b3, b6, b9, hrw, hE8, hce, c1, c2, c3, c4, c5, c6, g5, g6, hx1, hs, hql, z1, z3, hs2, z4, z6, hs3, z7, z9, J5, XN, U0, YX, YY, YZ, Yr, Nat.add_assoc, List.length_map, Int.toNat_natCast, V6, qaX, Zi, YM]
  repeat refine peel ?_
  apply V; clear V K
  refine Za fun K5 hK5 => ?_
  refine Zb ?_ ?_ <;> intro hb
  ·have hci : i < x.cells.length := ott
   obtain ⟨_, _, _, _, _, hcn, _⟩ := OwnL.nth hL2 (i := i) (by rw [List.length_take]; omega)
   have hnt : nth (els2.take x.cells.length) i = nth els2 i := by simp [nth, List.getD, hci]
   rw [hnt, Zx Zr x.cells i hci] at hcn
   obtain ⟨cb, cd, hce, c1, c2, c3, c4, c5, c6⟩ := own_cel_inv hcn
   have g5 : (n = n1) = False := oz
   have g6 : (n + 2 = n1) = False := oz
   have hx1 : IntKind.i64.wrap ((i : Int) + 1) = ((i + 1 : Nat) : Int) := w1 om
   refine ak ?_
   apply hK5
   refine bk fun K6 hK6 => ?_
   refine rg zs [3, 4, 5, 8, 11, 13, 14, 15, 17, 19, 23, 92, 93, 94] ?_
   refine Zf zs [3, 4, 5, 8, 11, 13, 14, 15, 17, 19, 92, 93, 94, 108] fun K V => ?_
   try simp only [go_sem, seval, hszs, hags, hmos, hszq, hagq, hmoq, x1, x2, x3, x4, x5, y1, y2, y3, y4, y5, y6, y7, f1, f2, f3, f4, f5, f6, b1, b2, b3, b6, b9, hrw, hE8, hce, c1, c2, c3, c4, c5, c6, g5, g6, hx1, hs, hql, z1, z3, hs2, z4, z6, hs3, z7, z9, J5, XN, U0, YX, YY, YZ, Yr, Nat.add_assoc, List.length_map, Int.toNat_natCast, V6, qaX, hszs, hags, hmos, g5, b1, Zi, List.length_map, c1, c2, c3, c4, c5, c6]
   repeat refine peel ?_
   apply V; clear V K
   refine Zb ?_ ?_ <;> intro hb
   ·have hfo1 : WV fs.length x.cells = true := famsOut_at hci (by unfold bout; have h9 := hb; simp at h9 ⊢; omega)
    rw [if_pos hfo1] at hzz
    refine rg zs [8, 9] ?_
    refine ar ?_
    refine hR8.none hzz.symm om (fun k h1 h2 => ?_); exact oh
   have hfo1 : bout (x.cells.getD i default).fam 0 ((fs.length : Int) - 1) = false := by unfold bout; have h9 := hb; simp at h9 ⊢; omega
   refine ak ?_
   apply hK6
   refine rg1 zs [3, 4, 5, 8, 11, 13, 14, 15, 17, 19, 92, 93, 94] ?_
   exact ⟨⟨i + 1, om, fun j hj => (by rcases Nat.lt_or_ge j i with h | h; exact hfa j h; rw [show j = i by omega]; exact hfo1), rfl, fun k hk => ohx (hH8 k hk), by omega⟩, by omega⟩
  have hci : i = x.cells.length := otf
  subst hci
  have hfn := famsOut_take hfa
  rw [if_neg (by rw [hfn]; simp)] at hzz
  have hQ8 := hQc H1 hR8.low
  have hra8 := hra.on fun j hj => hH8 j (hj1 j hj)
  have hca8 := hca.on fun j hj => hH8 j (hj2 j hj)
  refine ax ?_
  apply hK4
  refine rk zs [3, 4, 5, 8, 11, 13, 14, 15, 17, 18, 19] fun K V => ?_
  refine ck func53 ((OAns.fin (Ni hra8 om _))) ?_
  apply V; clear V K
  refine rk zs [3, 4, 5, 8, 11, 13, 14, 15, 17, 18, 19, 24] fun K V => ?_
  refine cg func54 (fun _ => (Qd hra8 hQ8.t _)) ?_
  refine cg func54 (fun _ => (Qd hra8 hQ8.f _)) ?_
  apply V; clear V K
  refine Za fun K7 hK7 => ?_
  refine rg zs [3, 4, 5, 8, 11, 13, 14, 15, 17, 18, 19, 143] ?_
  refine Zb ?_ ?_ <;> intro hb
  ·have hbe : Ws q x.row = true := by unfold Ws; have h9 := hb; simp at h9 ⊢; grind
   rw [if_pos hbe] at hzz
   refine rg zs [8, 17] ?_
   refine rg zs [8, 9] ?_
   refine ar ?_
   refine hR8.done (tok := []) (b := .nilsl) (js := []) hzz.symm om (fun k h1 h2 h3 => ?_) .nilsl List.nodup_nil (fun k hk => by cases hk); exact oh
  have hbe : Ws q x.row = false := by unfold Ws; have h9 := hb; simp at h9 ⊢; grind
  rw [if_neg (by simp [hbe])] at hzz
  refine ak ?_
  apply hK7
  refine rk zs [3, 4, 5, 8, 11, 13, 14, 15, 17, 18, 25] fun K V => ?_
  refine cK func55 (LZ hQ8 hqf.fams (Yv fs q) hca8 hrx.2.1 hrx.2.2 _) ?_ ?_
  ·intro p H' n' hc; exact hc.pan.elim
  intro rr H9 n9 hc
  obtain ⟨cj, hM⟩ := hc.got
  have hn9 := hM.nn
  have hs := fun g => hM.own.strip g
  have hql := hM.own.qLen prog 94
  rw [List.length_map] at hql
  obtain ⟨z1, z2, z3⟩ := hM.own.sl_sz
  have hR9 := hR8.on hM.low hM.nn
  refine nz ?_
  apply V; clear V K
  refine Za fun K8 hK8 => ?_
  refine rg zs [3, 4, 5, 8, 11, 13, 14, 15, 17, 18, 25, 153] ?_
  refine Zb ?_ ?_ <;> intro hb
  ·have hch : Yy q (Yv fs q) x.cells = [] := osb
   rw [if_pos hch] at hzz
   refine Yp [3, 4, 5, 8, 11, 13, 14, 15, 17, 18] ?_
   simp only [go_sem, seval]
   refine ax ?_
   first
   | (refine ⟨⟨m + 1, some x.row, acc, ver, els, pk, vw2, vt2, kb2, tels2, tk2, om, rfl, hR9, fun l hl => ?_, hzz⟩, ?_⟩
      ·cases hl; intro e; exact h256.1 (by rw [e]; rfl)
      ·rw [hask, hR9.src.ho, QZ]; omega)
  have hch : ¬ Yy q (Yv fs q) x.cells = [] := osb
  rw [if_neg hch] at hzz
  refine ak ?_
  apply hK8
  have b6 := hR9.hp
  refine dx zs [3, 4, 5, 8, 11, 13, 14, 15, 17, 18] [.q, .q, .m, .w [0, 1], .m, .q, .q, .w [], .q, .w []] [0, 1, 2, 4, 3, 5, 6, 7, 8, 9] [0, 1, 2, 4, 3, 5, 6, 7, 8, 9] fun K V => ?_
  refine cK func53 (YT x.row om _ _) ?_ ?_
  ·intro p H' n' hc; exact hc.pan.elim
  intro r2 H10 n10 hc
  obtain ⟨dj, hM2⟩ := hc.got
  have hs2 := fun g => hM2.own.strip g
  obtain ⟨z4, z5, z6⟩ := hM2.own.sl_sz
  have hR10 := hR9.on hM2.low hM2.nn
  have b6 := hR10.hp
  have b9 := hR10.hl
  refine nz ?_
  apply V; clear V K
  rw [List.take_of_length_le (Nat.le_refl els.length)]
  have hn10 := hM2.nn
  have hlen : (els ++ [AV.agg [r2, rr]]).length = els.length + 1 := osi
  have hal : acc.length = els.length := by have := hR.pile.own.len; simpa using this.symm
  refine ZO (fun H' n' => RnS fs (qaX q f t m0 p k) rows err ks kw kt lo (m + 1) n (acc ++ [⟨x.row, Yy q (Yv fs q) x.cells⟩]) (ver + 1) (els ++ [.agg [r2, rr]]) (pk ++ (dj ++ cj)) vw2 vt2 kb2 tels2 tk2 H H' n') (hR8.add om om (fun k h1 h2 h3 => ?_) (Pk _ _ _) ?_ (own_row (r := ⟨x.row, Yy q (Yv fs q) x.cells⟩) (hM2.own.frame fun k hk => ?_) (hM.own.frame fun k hk => ?_)) (List.nodup_append.2 ⟨hM2.nd, hM.nd, fun a ha b hb e => by have := hM2.lo a ha; have := hM.lo b hb; omega⟩) (fun k hk => ?_)) fun H11 n11 hR11 => ?_
  ·refine ohx ?_; rw [hM2.low k om, hM.low k om]
  ·exact oh
  ·have := hM2.lo k hk; (try simp only [Pj]); (repeat first | rw [if_pos rfl] | rw [if_pos trivial] | rw [if_neg om])
  ·have := hM.lo k hk; refine ohx ?_; exact hM2.low k om
  ·rcases List.mem_append.1 hk with h | h; (have := hM2.lo k h; omega); (have := hM.lo k h; omega)
  have b2 := hR11.hq
  have b3 := hR11.hz
  have b6 := hR11.hp
  rw [hlen] at b6
  refine rg zs [3, 4, 5, 8, 11, 13, 14, 15, 17, 18, 168] ?_
  refine Zb ?_ ?_ <;> intro hb
  ·have hrn : ((acc.length + 1 : Nat) : Int) = q.rows := by rw [hal]; simpa using hb
   rw [if_pos hrn] at hzz
   refine rk zs [8, 17] fun K V => ?_
   refine cK func56 (Ng hqf (hGc H11 n11 hR11.low (by have := hR11.lt; omega)) (hQc H11 hR11.low) (atE q clock).1 x.row h256.2) ?_ ?_
   ·intro p H' n' hc; exact hc.pan.elim
   intro r3 H12 n12 hc
   obtain ⟨ej, hM3⟩ := hc.got
   have hs3 := fun g => hM3.own.strip g
   obtain ⟨z7, z8, z9⟩ := hM3.own.sl_sz
   have hR12 := hR11.on hM3.low hM3.nn
   have hn12 := hM3.nn
   have hlt11 := hR11.lt
   have b3 := hR12.hz
   have b6 := hR12.hp
   rw [hlen] at b6
   refine nz ?_
   apply V; clear V K
   refine rg zs [8, 9] ?_
   refine ar ?_
   first
   | (rw [← hlen]
      refine hR11.done (tok := tokB q (atE q clock).1 x.row) hzz.symm om (fun k h1 h2 h3 => ?_) (hM3.own.frame fun k hk => ?_) hM3.nd (fun k hk => hM3.lo k hk)
      ·refine ohx ?_; exact hM3.low k om
      ·have := hM3.lo k hk; exact oh)
  have hrn : ¬ ((acc.length + 1 : Nat) : Int) = q.rows := by rw [hal]; simpa using hb
  rw [if_neg hrn] at hzz
  refine Yp [3, 4, 5, 8, 11, 13, 14, 15, 17, 18] ?_
  simp only [go_sem, seval]
  refine ak ?_
  first
  | (refine ⟨⟨m + 1, some x.row, _, _, _, _, vw2, vt2, kb2, tels2, tk2, om, rfl, hR11, fun l hl => ?_, hzz⟩, ?_⟩
     ·cases hl; intro e; exact h256.1 (by rw [e]; rfl)
     ·rw [hask, hR11.src.ho, QZ]; omega)
 ·refine LQ zs [3, 4, 5, 8, 11, 13, 14, 15, 17, 18, 19, 20, 21] 1 rfl (by first | trivial | (show _ < _; decide)) fun K V => ?_
  refine nz ?_
  refine nz ?_
  refine callI_use UQ func187 rfl rfl (JU rows err hrl hrb ks kw kt lo m vw vt kb tels tk _ _ hR.src om om om) ?_ ?_
  ·intro p H' n' hc; exact hc.pan.elim
  intro rr H2 n2 hc
  have hn2 := hc.1
  first
  | (obtain ⟨vw2, vt2, tels2, rfl, hs2, hb1⟩ := hc.past hge
     have hR2 := hR.next hc.1 hc.2.1 hs2 (fun k hk => .inl hk) hb1 om)
  refine nz ?_
  apply V; clear V K
  refine bk fun K3 hK3 => ?_
  first
  | (refine ZO (fun H' n' => RnS fs (qaX q f t m0 p k) rows err ks kw kt lo (m + 1) n acc ver els pk vw2 vt2 kb tels2 tk H H' n' ∧ n' = n2 + 1) ⟨hR2.on (fun k hk => Pi _ _ om) om, rfl⟩ fun H7 n7 ⟨hR7, hn7⟩ => ?_
     rw [List.drop_eq_nil_of_le hge] at hzz; unfold runG at hzz)
  have b1 := hR7.hs
  have b2 := hR7.hq
  have b3 := hR7.hz
  have b6 := hR7.hp
  have b9 := hR7.hl
  refine rg zs [3, 4, 5, 8, 11, 13, 14, 15, 17, 18, 19, 20, 21, 71] ?_
  refine Zb ?_ ?_ <;> intro hb
  ·have he0 : err ≠ 0 := osb
   rw [if_pos he0] at hzz
   refine rg zs [8, 9] ?_
   refine ar ?_
   refine hR7.none hzz.symm om (fun k h1 h2 => ?_); exact oh
  have he0 : ¬ err ≠ 0 := osb
  rw [if_neg he0] at hzz
  refine rg zs [3, 4, 5, 8, 11, 13, 14, 15, 17, 18, 19, 76] ?_
  refine Zb ?_ ?_ <;> intro hb
  ·refine rg zs [8, 17] ?_
   refine rg zs [8, 9] ?_
   refine ar ?_
   refine hR7.done (tok := []) (b := .nilsl) (js := []) hzz.symm om (fun k h1 h2 h3 => ?_) .nilsl List.nodup_nil (fun k hk => by cases hk); exact oh
  exact absurd hb osi
end Go.Proofs.YtkmkbndcekklmaaGreatDoor
set_option maxRecDepth 10000
namespace Go.Proofs.YtkmkbndcekklmaaGreatDoor
open Go Go.Sx Go.Rt Go.Proofs Go.ChangeShapes Go.WideShapes Go.ChangeAt Go.RowKit Tryz
theorem sInts_av2 {a : AV} {m : Nat} (h : SInts a m) : ∃ l : List Int, a = Zu l ∧ l.length + 1 ≤ m := by
 obtain ⟨l, h1, h2, _⟩ := Vm (f := fun x => AV.int .i64 x) (q := fun _ => 0) (fun a m ⟨n, h1, h2, h3⟩ => ⟨n, h1, Nat.zero_le _, om⟩) h
 exact ⟨l, h1, h2⟩
theorem sQry_av2 {a : AV} {m : Nat} (h : SQry a m) : ∃ x : QryE, a = Zg x ∧ x.frm.length ≤ m ∧ x.to.length ≤ m ∧ x.fams.length ≤ m ∧ x.pre.length ≤ m ∧ x.whr.length ≤ m ∧ x.token.length ≤ m ∧ (Lit.int .i64 x.time).wf = true := by
 obtain ⟨xs, rfl, hx, rfl⟩ := h
 obtain ⟨x0, xs, rfl, h0, hx⟩ := ZH hx
 obtain ⟨x1, xs, rfl, h1, hx⟩ := ZH hx
 obtain ⟨x2, xs, rfl, h2, hx⟩ := ZH hx
 obtain ⟨x3, xs, rfl, h3, hx⟩ := ZH hx
 obtain ⟨x4, xs, rfl, h4, hx⟩ := ZH hx
 obtain ⟨x5, xs, rfl, h5, hx⟩ := ZH hx
 obtain ⟨x6, xs, rfl, h6, hx⟩ := ZH hx
 obtain ⟨x7, xs, rfl, h7, hx⟩ := ZH hx
 obtain ⟨x8, xs, rfl, h8, hx⟩ := ZH hx
 obtain ⟨x9, xs, rfl, h9, hx⟩ := ZH hx
 obtain rfl := VU hx
 obtain ⟨n0, e0, l0⟩ := WR h0
 obtain ⟨n1, e1, l1⟩ := WR h1
 obtain ⟨n2, e2, l2⟩ := sInts_av2 h2
 obtain ⟨n3, e3, l3⟩ := WR h3
 obtain ⟨n4, e4, w4, _⟩ := h4
 obtain ⟨n5, e5, _, _⟩ := h5
 obtain ⟨n6, e6, _, _⟩ := h6
 obtain ⟨n7, e7, _⟩ := h7
 obtain ⟨n8, e8, l8⟩ := h8
 obtain ⟨n9, e9, l9⟩ := WR h9
 refine ⟨⟨n0, n1, n2, n3, n4, n5, n6, n7, n8, n9⟩, by simp [Zg, e0, e1, e2, e3, e4, e5, e6, e7, e8, e9], ?_⟩
 simp only [List.map_cons, List.map_nil, List.sum_cons, List.sum_nil]
 exact ⟨om, om, om, om, om, om, w4⟩
def celQ (c : CelE) : Nat := max c.qual.length c.value.length
def rowQ (r : RowE) : Nat := max r.row.length (max r.cells.length (r.cells.foldr (fun c a => max (celQ c) a) 0))
theorem fold_le {l : List CelE} {m : Nat} (h : ∀ c ∈ l, celQ c ≤ m) : l.foldr (fun c a => max (celQ c) a) 0 ≤ m := by
 exact kbQ
theorem le_fold {l : List CelE} {c : CelE} (h : c ∈ l) : celQ c ≤ l.foldr (fun c a => max (celQ c) a) 0 := by
 exact kbX
theorem sCel_av2 {a : AV} {m : Nat} (h : SCel a m) : ∃ x : CelE, a = Zr x ∧ celQ x ≤ m ∧ 1 ≤ m := by
 obtain ⟨xs, rfl, hx, rfl⟩ := h
 obtain ⟨x0, xs, rfl, h0, hx⟩ := ZH hx
 obtain ⟨x1, xs, rfl, h1, hx⟩ := ZH hx
 obtain ⟨x2, xs, rfl, h2, hx⟩ := ZH hx
 obtain ⟨x3, xs, rfl, h3, hx⟩ := ZH hx
 obtain rfl := VU hx
 obtain ⟨n0, e0, _, _⟩ := h0
 obtain ⟨n1, e1, l1⟩ := WR h1
 obtain ⟨n2, e2, _, _⟩ := h2
 obtain ⟨n3, e3, l3⟩ := WR h3
 refine ⟨⟨n0, n1, n2, n3⟩, by simp [Zr, e0, e1, e2, e3], ?_, om⟩
 simp only [celQ, List.map_cons, List.map_nil, List.sum_cons, List.sum_nil]
 omega
theorem MJ {a : AV} {m : Nat} (h : SRow a m) : ∃ x : RowE, a = Ze x ∧ rowQ x ≤ m ∧ 1 ≤ m := by
 obtain ⟨xs, rfl, hx, rfl⟩ := h
 obtain ⟨x0, xs, rfl, h0, hx⟩ := ZH hx
 obtain ⟨x1, xs, rfl, h1, hx⟩ := ZH hx
 obtain rfl := VU hx
 obtain ⟨n0, e0, l0⟩ := WR h0
 obtain ⟨n1, e1, hl, hc⟩ := Vm (f := Zr) (q := celQ) (fun a m h => sCel_av2 h) h1
 refine ⟨⟨n0, n1⟩, by simp [Ze, e0, e1], ?_, om⟩
 have := fold_le hc
 simp only [rowQ, List.map_cons, List.map_nil, List.sum_cons, List.sum_nil]
 omega
theorem rowQ_spec {r : RowE} {m : Nat} (h : rowQ r ≤ m) : r.row.length ≤ m ∧ r.cells.length ≤ m ∧ ∀ c ∈ r.cells, c.qual.length ≤ m ∧ c.value.length ≤ m := by
 unfold rowQ at h
 refine ⟨om, om, fun c hc => ?_⟩
 have := le_fold hc
 have e : celQ c = max c.qual.length c.value.length := rfl
 omega
section
variable {H : Type} {enc : TypeId × Value → H} {W : World}
set_option maxRecDepth 100000 in
theorem argQryT {v : Value} {d : DataW H} {ps : List MemPlace} (hv : Value.okWide prog W .any 0 25 v) (h : DataW.Trod enc prog W 0 (fun _ => true) true 25 v d ps) (hb : Rows.uptoBulk d ≤ 1048576) :
   ∃ x : QryE, Rel (c0 W) (Zg x) false [v] ∧ x.fine ∧ -9223372036854775808 ≤ x.time ∧ x.time < 9223372036854775808 := by
 obtain ⟨a, m, h1, h2, h3⟩ := Jd rQry h
 obtain ⟨x, rfl, f1, f2, f3, f4, f5, f6, f7⟩ := sQry_av2 h1
 refine ⟨x, JZ h2 (fun _ => ?_) (fun h => by simp [Zg, AV.isAgg] at h), ⟨om, om, om, om, om, om⟩, i64_bd f7⟩
 obtain ⟨cs, hcs, _⟩ := okWide_struct underlying25 hv
 exact ⟨cs, hcs⟩
theorem argQry {v : Value} {d : DataW H} {ps : List MemPlace} (hv : Value.okWide prog W .any 0 25 v) (h : DataW.Trod enc prog W 0 (fun _ => true) true 25 v d ps) (hb : Rows.uptoBulk d ≤ 1048576) :
   ∃ x : QryE, Rel (c0 W) (Zg x) false [v] ∧ x.fine := by
 obtain ⟨x, h1, h2, _⟩ := argQryT hv h hb
 exact ⟨x, h1, h2⟩
end
def tabs : List (String × DataW Unit) := [("strata/wire.table", Rows.laid_strata_wire_table)]
theorem var_cells {W : World} {nm : String} {g : Nat} {cs : Array Value} (hg : (prog).globalNamed nm = some g) (h : W.var? prog nm = some cs) : ∃ ty fr, W.heap[g]? = some (.cells cs ty fr) := by
 unfold World.var? at h
 rw [hg] at h
 simp only [Option.bind_some] at h
 split at h
 ·rename_i c ty fr hb; simp only [Option.some.injEq] at h; subst h; exact ⟨ty, fr, hb⟩
 ·simp at h
theorem tables {W : World} (h : laidMetH prog tabs W) : ∃ (aT : Array Value) (tT : TypeId) (fT : Nat × Nat), W.heap[1]? = some (.cells aT tT fT) ∧ At aT 0 (Ql.map fun n => .int .u32 n) := by
 have h : laidMet prog tabs W := h
 obtain ⟨ps, ⟨g, t, cs, fuel, p, q, hg, ht, hv, hd, _, _⟩, _⟩ := h
 have e1 : (prog).globalNamed "strata/wire.table" = some 1 := by kernel_rfl
 have e3 : ((prog).globals[1]?).map (·.type) = some 197 := by kernel_rfl
 obtain rfl := Option.some.inj (hg.symm.trans e1)
 obtain rfl := Option.some.inj (ht.symm.trans e3)
 obtain ⟨tT, fT, hT⟩ := var_cells e1 hv
 refine ⟨cs, tT, fT, hT, ?_⟩
 have hc : cs.toList = Ql.map fun z => Value.int .u32 z := Lib.cells_of_tab (zs := Ql) underlying197 underlying163 (by kernel_rfl) (by kernel_rfl) hd
 exact At.self hc
def cG (W : World) : Ctx := ⟨fun k v => if k = 1 ∧ v = 0 then some .nil else none, (c0 W).ro⟩
def HG : Heap := fun k => if k = 1 then some (.glob 1 UO) else none
theorem cG_le (W : World) : (c0 W).le (cG W) := ⟨fun h => by simp [c0] at h, fun h => h⟩
theorem gokG : GOK 1 1 HG 2 := ⟨fun h => absurd rfl h, rfl, odc, odc⟩
theorem simG {W : World} (h : laidMetH prog tabs W) : Sim (cG W) HG 2 W where
 ro := (sim0 W).ro
 own := fun k o hk => by
   obtain ⟨aT, tT, fT, hT, aT'⟩ := tables h
   unfold HG at hk
   split at hk
   ·rename_i e; subst e; cases hk
    refine ⟨by simp [cG], fun x hx => ?_, aT, _, by simp [cG, c0, hT], ?_, aT'⟩
    ·obtain ⟨i, _, rfl⟩ := List.mem_map.1 hx; rfl
    ·unfold UO
     generalize Ql = l
     induction l with
     | nil => simp [RelF]
     | cons n l ih => simp only [List.map_cons, RelF]; exact ⟨[_], _, rfl, rfl, ih⟩
   ·simp at hk
 sep := fun k o b hk hb => by
   exact kco
 inj := fun k k' o o' b hk hk' hb _ => by
   exact kco
 fresh := fun k hk => ⟨by unfold HG; rw [if_neg om], fun v => by simp only [cG]; rw [if_neg om]⟩
 vers := fun k o v hk hv => by
   have : ¬ v = 0 := om
   simp [cG, this]
theorem retG {f : FuncId} {args : List AV} {W : World} {vs : List Value} (hw : laidMetH prog tabs W) (h : Ret prog f args HG 2 (.bool true) HG 2) (hr : RelT (c0 W) args vs) :
   Calls prog f vs.toArray W fun e w' => e = .returned (.bool true) ∧ RowKit.Below W.heap.size W w' :=
 (h (cG W) W vs (simG hw) (RelT.mono (cG_le W) _ _ hr)).mono fun e w' ⟨res, c', H', n', ⟨hres, _, _⟩, hst, hm⟩ => by
   subst hres
   refine ⟨?_, ?_⟩
   ·exact kbO
   ·have hf := hst.fr
    exact ⟨hf.os, hf.tape, hf.output, hf.size, fun k hk => hf.keep k hk fun ⟨j, o, h1, hb⟩ => by
      unfold HG at h1
      split at h1
      ·rename_i e; subst e; cases h1; simp [Zj, AObj.ver, cG] at hb
      ·simp at h1⟩
def putCells (cs : Array Value) : Obj → Obj
 | .cells _ t fr => .cells cs t fr
 | o => o
noncomputable def KZ (os : Os) : World :=
 { World.holding prog os ⟨#[], #[], []⟩ with heap := (World.holding prog os ⟨#[], #[], []⟩).heap.modify 1 (putCells #[.int .u32 0, .int .u32 274646895, .int .u32 549293790, .int .u32 820201905, .int .u32 1098587580, .int .u32 1361435347, .int .u32 1640403810, .int .u32 1905808397, .int .u32 2197175160, .int .u32 2460548119, .int .u32 2722870694, .int .u32 2987750089, .int .u32 3280807620, .int .u32 3553878443, .int .u32 3811616794, .int .u32 4084100981]) }
end Go.Proofs.YtkmkbndcekklmaaGreatDoor
namespace Go.Rt
open Go Go.Sx
section
variable {fs : List Fml} {t : List UInt8}
end
end Go.Rt
set_option maxRecDepth 10000
namespace Go.Proofs.YtkmkbndcekklmaaGreatDoor
open Go Go.Sx Go.Rt Go.Proofs Tryz
theorem mod128 (x : Nat) : AV.int .u8 (IntKind.u8.wrap (IntKind.u64.wrap (128 + (x : Int).tmod 128))) = Zd (UInt8.ofNat (x % 128 + 128)) := by
 have h1 : (x : Int).tmod 128 = ((x % 128 : Nat) : Int) := by rw [Int.tmod_eq_emod_of_nonneg om]; omega
 rw [h1, show (128 : Int) + ((x % 128 : Nat) : Int) = ((x % 128 + 128 : Nat) : Int) by omega, ZZ, X8 _ om, Xv, Ls]
theorem NJ70.eqs {P Q : Prop} (g : Imp P Q := by (try simp only [go_sem, seval]); exact Pm) : Imp P Q := g
open NJ70 NY in
theorem Xp (v : Nat) (hv : v < 18446744073709551616) (H : Heap) (n : Nat) : Ret prog 125 [.int .u64 v] H n (.osl n (Zh v).length 0 (Zh v).length) (H.put n (some (.arr (Zh v).length 1 ((Zh v).map Zd)))) (n + 1) := by
 have hlen := Zl hv
 refine fw func125 ntmps125 results125 ?_
 refine kcu ?_
 refine rg zs [0, 3] ?_
 refine bk fun K1 hK1 => ?_
 refine Z8 3 1 rfl ?_
 refine Yp [0, 3] ?_
 simp only [go_sem, seval]
 refine Zp (fun T' H' n' => ∃ (b : List UInt8) (x : Nat), b ++ Zh x = Zh v ∧ x < 18446744073709551616 ∧ T' = tl [(0, .int .u64 x), (3, .osl n b.length 0 b.length)] ∧ H' = H.put n (some (.arr b.length 1 (b.map Zd))) ∧ n' = n + 1) (fun T' _ _ => iv (T' 0)) ?_ ?_
 ·exact ⟨[], v, rfl, hv, rfl, rfl, rfl⟩
 rintro T1 H1 n1 ⟨b, x, hbx, hx, rfl, rfl, rfl⟩
 refine Za fun K2 hK2 => ?_
 refine rg zs [0, 3, 5] ?_
 refine Zb ?_ ?_ <;> intro hb
 ·have hge : 128 ≤ x := ott
  rw [Qk hge] at hbx
  have hbl : b.length ≤ 10 := by have := congrArg List.length hbx; simp at this; omega
  have hdv : (x : Int).tdiv 128 = ((x / 128 : Nat) : Int) := by rw [Int.tdiv_eq_ediv_of_nonneg om]; omega
  have hwr : IntKind.u64.wrap ((x / 128 : Nat) : Int) = ((x / 128 : Nat) : Int) := by rw [ZZ, X8 _ om]
  refine kaQ ?_
  refine kbM ?_
  refine Zf zs [0, 3] fun K V => ?_
  try simp only [go_sem, seval, mod128, List.length_map, List.take_length, Qa, List.take_of_length_le ]
  repeat (first | (refine And.intro ?_ ?_; · first | exact ⟨rfl, by simp [AV.sz, AV.memOK]⟩ | exact ⟨om, .inr trivial, om, om⟩) | refine peel ?_)
  refine kas ?_
  refine ZG zs [0, 3] fun K V => ?_
  try simp only [go_sem, seval, hdv, hwr]
  refine kad ?_
  exact ka7
 exact kaq
theorem NJ71.eqs {P Q : Prop} (g : Imp P Q := by (try simp only [go_sem, seval, List.length_map, ZZ, hu]); exact Pm) : Imp P Q := g
theorem NJ71.sd {P : Prop} (g : P := by first | exact ⟨om, .inr trivial, om, om⟩ | fail) : P := g
open NJ71 NZ in
theorem Wl (b : List UInt8) (hb : b.length ≤ 1099511627776) (H : Heap) (n : Nat) : Ret prog 126 [bys b] H n (.osl n ((Zh b.length).length + 1) 0 (Zk b).length) (H.put n (some (.arr ((Zh b.length).length + 1) 1 ((Zk b).map Zd)))) (n + 1) := by
 have hlen := Zl (v := b.length) om
 have hu : u64 (b.length : Int) = b.length := X8 _ om
 refine fw func126 ntmps126 results126 ?_
 refine kcu ?_
 refine rk zs [2] fun K V => ?_
 refine ck func125 ((Xp b.length om _ _)) ?_
 refine kas ?_
 exact kbR
theorem NHj0.eqs {P Q : Prop} (g : Imp P Q := by (try simp only [go_sem, seval, hsz, Zg, Zu, bys, List.length_map, f1, f2, hQ, hB, g1, g2, hnth, hx, Yn, ZZ, Int.toNat_natCast]); exact Pm) : Imp P Q := g
theorem NHj0.sd {P : Prop} (g : P := by first | exact ⟨Nat.le_refl _, Nat.le_refl _, .inr trivial, om, om⟩ | exact ⟨om, om⟩ | fail) : P := g
set_option maxHeartbeats 3200000 in
open NHj0 NZ in
theorem c_ref13_form (q : QryE) (h1 : q.frm.length ≤ 1048576) (h2 : q.to.length ≤ 1048576) (h3 : q.fams.length ≤ 1048576) (h4 : q.pre.length ≤ 1048576) (h5 : q.whr.length ≤ 1048576) (H : Heap) (n : Nat) : Ret prog 128 [Zg q] H n (bys (YE q)) H n := by
 have hsz : (Zg q).sz = 10 := Z6 q
 have hQ := hsz
 have hB := hsz
 have g1 := hsz
 have g2 := hsz
 have hnth := hsz
 have hx := hsz
 have f1 : (n = n + 1) = False := osi
 have f2 : (n + 1 = n) = False := osi
 refine Ret.fin ?_
 refine fw func128 ntmps128 results128 ?_
 refine rg zs [1] ?_
 refine rg zo [1, 3] ?_
 refine ZQ [1, 3] (fun T' H' n' => T' = tl [(1, .loc n 0 0 0 []), (3, .osl (n + 1) 0 0 1)] ∧ Wu q H n 0 1 [if q.rev then 1 else 0] H' n') ?_ ?_
 ·refine rg zs [1, 3, 7] ?_
  refine Zb ?_ ?_ <;> intro hb
  ·refine rg1 zs [1, 3] ?_
   exact kaC
  refine ak ?_
  exact kaC
 rintro T1 H1 m ⟨rfl, hS⟩
 obtain ⟨b0, hb0⟩ : ∃ b, b = [if q.rev then (1 : UInt8) else 0] := ⟨_, rfl⟩
 rw [← hb0] at hS
 have hb1 : b0.length = 1 := by rw [hb0]; rfl
 rw [show AV.osl (n + 1) 0 0 1 = AV.osl (n + 1) 0 0 b0.length by rw [hb1]]
 have hQ := hS.q
 have hB := hS.b
 have hl := hS.lt
 have hle := hS.le
 have g1 : (n + 1 = m) = False := oz
 have g2 : (n = m) = False := oz
 have hy := Zl (v := q.frm.length) om
 have hz : (Zk q.frm).length = (Zh q.frm.length).length + q.frm.length := by simp [Zk]
 refine rk zs [1, 3] fun K V => ?_
 refine ck func126 ((Wl q.frm om _ _)) ?_
 refine kas ?_
 refine ZO (fun H' n' => Wu q H n (0 + 1) 1048600 (b0 ++ Zk q.frm) H' n') (hS.app (Zk q.frm) rfl om om) fun H1 m hS => ?_
 refine kbS ?_
 obtain ⟨c1, hc1⟩ : ∃ b, b = b0 ++ Zk q.frm := ⟨_, rfl⟩
 rw [← hc1] at hS ⊢
 have hQ := hS.q
 have hB := hS.b
 have hl := hS.lt
 have hle := hS.le
 have g1 : (n + 1 = m) = False := oz
 have g2 : (n = m) = False := oz
 have hy := Zl (v := q.to.length) om
 have hz : (Zk q.to).length = (Zh q.to.length).length + q.to.length := by simp [Zk]
 refine rk zs [1, 3] fun K V => ?_
 refine ck func126 ((Wl q.to om _ _)) ?_
 refine kas ?_
 refine ZO (fun H' n' => Wu q H n (0 + 1 + 1) 2097200 (c1 ++ Zk q.to) H' n') (hS.app (Zk q.to) rfl om om) fun H1 m hS => ?_
 refine kbS ?_
 obtain ⟨c2, hc2⟩ : ∃ b, b = c1 ++ Zk q.to := ⟨_, rfl⟩
 rw [← hc2] at hS ⊢
 have hQ := hS.q
 have hB := hS.b
 have hl := hS.lt
 have hle := hS.le
 have g1 : (n + 1 = m) = False := oz
 have g2 : (n = m) = False := oz
 have hy := Zl (Z5 q.fams.length)
 refine rc zs [1, 3] func125 ((Xp (u64 q.fams.length) (Z5 _) _ _)) ?_
 refine Za fun K1 hK1 => ?_
 refine ZO (fun H' n' => Wu q H n (0 + 1 + 1 + 1) 3000000 (c2 ++ Zh (u64 q.fams.length)) H' n') (hS.app (Zh (u64 q.fams.length)) rfl om om) fun H1 m hS => ?_
 refine kbS ?_
 obtain ⟨c3, hc3⟩ : ∃ b, b = c2 ++ Zh (u64 q.fams.length) := ⟨_, rfl⟩
 rw [← hc3] at hS ⊢
 have hQ := hS.q
 have hB := hS.b
 have hl := hS.lt
 have hle := hS.le
 have g1 : (n + 1 = m) = False := oz
 have g2 : (n = m) = False := oz
 refine rg zs [1, 3, 4] ?_
 refine kbM ?_
 refine Zp (fun T' H' n' => ∃ i : Nat, i ≤ q.fams.length ∧ T' = tl [(1, .loc n 0 0 0 []), (3, .osl (n + 1) (3 + i) 0 (c3 ++ (q.fams.take i).flatMap (fun f => Zh (u64 f))).length), (4, .int .i64 i)] ∧ Wu q H n (3 + i) (3000000 + 10 * i) (c3 ++ (q.fams.take i).flatMap (fun f => Zh (u64 f))) H' n') (fun T' _ _ => q.fams.length - iv (T' 4)) ?_ ?_
 ·exact ⟨0, Nat.zero_le _, osi, by simpa using hS⟩
 rintro T1 H1 n1 ⟨i, hi, rfl, hS⟩
 obtain ⟨m, hm⟩ : ∃ m, m = n1 := ⟨_, rfl⟩
 subst hm
 have hQ := hS.q
 refine Za fun K2 hK2 => ?_
 refine rg zs [1, 3, 4, 31] ?_
 refine Zb ?_ ?_ <;> intro hb
 ·have hlt : i < q.fams.length := ott
  have hx : IntKind.i64.wrap ((i : Int) + 1) = ((i + 1 : Nat) : Int) := w1 om
  have hnth : nth (q.fams.map fun n => AV.int .i64 n) i = AV.int .i64 (q.fams.getD i 0) := Zx (fun n => AV.int .i64 n) q.fams _ hlt
  have hy := Zl (Z5 (q.fams.getD i 0))
  have hts : (q.fams.take (i + 1)).flatMap (fun f => Zh (u64 f)) = (q.fams.take i).flatMap (fun f => Zh (u64 f)) ++ Zh (u64 (q.fams.getD i 0)) := by rw [List.take_succ_eq_append_getElem hlt, List.flatMap_append]; simp [List.getD, hlt]
  obtain ⟨d, hd⟩ : ∃ d, d = c3 ++ (q.fams.take i).flatMap (fun f => Zh (u64 f)) := ⟨_, rfl⟩
  rw [← hd] at hS ⊢
  have hQ := hS.q
  have hB := hS.b
  have hl := hS.lt
  have hle := hS.le
  have g1 : (n + 1 = m) = False := oz
  have g2 : (n = m) = False := oz
  refine kaQ ?_
  refine bk fun K3 hK3 => ?_
  refine rc1 zs [1, 3, 4] func125 ((Xp (u64 (q.fams.getD i 0)) (Z5 _) _ _)) ?_
  apply hK3
  refine rg1 zs [1, 3, 4] ?_
  exact kbf
 have hge : i = q.fams.length := otf
 have htk : q.fams.take i = q.fams := List.take_of_length_le om
 subst hge
 obtain ⟨c4, hc4⟩ : ∃ d, d = c3 ++ (q.fams.take q.fams.length).flatMap (fun f => Zh (u64 f)) := ⟨_, rfl⟩
 rw [← hc4] at hS ⊢
 have hQ := hS.q
 have hB := hS.b
 have hl := hS.lt
 have hle := hS.le
 have g1 : (n + 1 = m) = False := oz
 have g2 : (n = m) = False := oz
 have hy := Zl (v := q.pre.length) om
 have hz : (Zk q.pre).length = (Zh q.pre.length).length + q.pre.length := by simp [Zk]
 refine ax ?_
 apply hK1
 refine rk zs [1, 3] fun K V => ?_
 refine ck func126 ((Wl q.pre om _ _)) ?_
 refine kas ?_
 refine ZO (fun H' n' => Wu q H n (3 + q.fams.length + 1) 16000000 (c4 ++ Zk q.pre) H' n') (hS.app (Zk q.pre) rfl om om) fun H1 m hS => ?_
 refine kbS ?_
 obtain ⟨c5, hc5⟩ : ∃ b, b = c4 ++ Zk q.pre := ⟨_, rfl⟩
 rw [← hc5] at hS ⊢
 have hQ := hS.q
 have hB := hS.b
 have hl := hS.lt
 have hle := hS.le
 have g1 : (n + 1 = m) = False := oz
 have g2 : (n = m) = False := oz
 have hy := Zl (Z5 q.time)
 refine rc zs [1, 3] func125 ((Xp (u64 q.time) (Z5 _) _ _)) ?_
 refine ZO (fun H' n' => Wu q H n (3 + q.fams.length + 1 + 1) 16000010 (c5 ++ Zh (u64 q.time)) H' n') (hS.app (Zh (u64 q.time)) rfl om om) fun H1 m hS => ?_
 refine kbS ?_
 obtain ⟨c6, hc6⟩ : ∃ b, b = c5 ++ Zh (u64 q.time) := ⟨_, rfl⟩
 rw [← hc6] at hS ⊢
 have hQ := hS.q
 have hB := hS.b
 have hl := hS.lt
 have hle := hS.le
 have g1 : (n + 1 = m) = False := oz
 have g2 : (n = m) = False := oz
 have hy := Zl (Z5 q.n)
 refine rc zs [1, 3] func125 ((Xp (u64 q.n) (Z5 _) _ _)) ?_
 refine ZO (fun H' n' => Wu q H n (3 + q.fams.length + 1 + 1 + 1) 16000020 (c6 ++ Zh (u64 q.n)) H' n') (hS.app (Zh (u64 q.n)) rfl om om) fun H1 m hS => ?_
 refine kbS ?_
 obtain ⟨c7, hc7⟩ : ∃ b, b = c6 ++ Zh (u64 q.n) := ⟨_, rfl⟩
 rw [← hc7] at hS ⊢
 have hQ := hS.q
 have hB := hS.b
 have hl := hS.lt
 have hle := hS.le
 have g1 : (n + 1 = m) = False := oz
 have g2 : (n = m) = False := oz
 have hy := Zl (v := q.whr.length) om
 have hz : (Zk q.whr).length = (Zh q.whr.length).length + q.whr.length := by simp [Zk]
 refine rk zs [2] fun K V => ?_
 refine ck func126 ((Wl q.whr om _ _)) ?_
 refine kas ?_
 exact kaG
theorem eight_head (v : Nat) : (U3 v 8).drop 4 = Yt v := by
 show [Z4 ((v / 256 ^ 3 : Nat) : Int), Z4 ((v / 256 ^ 2 : Nat) : Int), Z4 ((v / 256 ^ 1 : Nat) : Int), Z4 ((v / 256 ^ 0 : Nat) : Int)] = _
 unfold Yt
 rw [show ((v / 256 ^ 3 : Nat) : Int) = (v : Int) / 16777216 by omega, show ((v / 256 ^ 2 : Nat) : Int) = (v : Int) / 65536 by omega, show ((v / 256 ^ 1 : Nat) : Int) = (v : Int) / 256 by omega, show ((v / 256 ^ 0 : Nat) : Int) = (v : Int) by omega]
theorem NHk0.eqs {P Q : Prop} (g : Imp P Q := by (try simp only [go_sem, seval, List.length_map, ZZ, hu, e1, e4, YB, Option.getD_some, Option.getD_none]); exact Pm) : Imp P Q := g
open NHk0 NY in
theorem c_ref1_Frame (b : List UInt8) (hb : b.length ≤ 1048576) (H : Heap) (n : Nat) : Ret prog 129 [bys b] H n (.tup [bys (Z9 b), .int .i64 0]) H n := by
 have hu : u64 (b.length : Int) = b.length := X8 _ om
 have e1 : List.drop 4 (List.take 8 ((U3 b.length 8).map Zd)) = (Yt b.length).map Zd := by rw [List.take_of_length_le (by simp [YB]), ← List.map_drop, eight_head]
 obtain ⟨hd, hhd⟩ : ∃ x, x = Yt b.length := ⟨_, rfl⟩
 have hdl : hd.length = 4 := by rw [hhd]; rfl
 have hfb : Z9 b = hd ++ lowB (sumF [hd]) ++ b ++ lowB (sumF [b]) := by rw [hhd]; rfl
 rw [← hhd] at e1
 have e2 : (hd.take 4).drop 0 = hd := by rw [List.drop_zero, List.take_of_length_le om]
 have hll : ∀ v, (lowB v).length = 4 := fun v => rfl
 have e4 : List.take 4 (hd.map Zd) = hd.map Zd := List.take_of_length_le oz
 have e8 : List.take 8 ((hd ++ lowB (sumF [hd])).map Zd) = (hd ++ lowB (sumF [hd])).map Zd := List.take_of_length_le (by simp [hll]; omega)
 have hzz : (Option.map (fun x => x) (none : Option Nat)) = none := rfl
 refine Ret.fin ?_
 refine fw func129 ntmps129 results129 ?_
 refine kcu ?_
 refine Za fun K1 hK1 => ?_
 refine rg zs [0, 8] ?_
 refine Zb ?_ ?_ <;> intro hb
 ·exact absurd (of_decide_eq_true hb) om
 refine kay ?_
 refine rk zs [0, 4] fun K V => ?_
 refine ck func146 ((c_ref1_eight b.length om _ _)) ?_
 refine kas ?_
 refine rk zs [0, 5] fun K V => ?_
 refine ck func58 ((e2 ▸ Qz hd om 0 4 om om _ _)) ?_
 refine ck func133 ((WY hd om _ _)) ?_
 refine kas ?_
 refine ZO (fun H' n' => H' n = some (.arr 2 1 ((hd ++ lowB (sumF [hd])).map Zd)) ∧ (∀ k, k < n → H' k = H k) ∧ n' = n + 1) ⟨by simp only [Pk, List.map_append]; rw [List.take_of_length_le osi], fun k hk => Pi _ _ om, rfl⟩ fun H1 n1 ⟨r1, hl1, hn1⟩ => ?_
 subst hn1
 refine kbS ?_
 have hl8 : (hd ++ lowB (sumF [hd])).length = 8 := by rw [List.length_append, hdl]; rfl
 have e9 : List.take (hd ++ lowB (sumF [hd])).length ((hd ++ lowB (sumF [hd])).map Zd) = (hd ++ lowB (sumF [hd])).map Zd := List.take_of_length_le osi
 refine Zf zs [0, 5] fun K V => ?_
 try simp only [go_sem, seval, List.length_map, ZZ, hu, e1, e4, YB, Option.getD_some, Option.getD_none, r1, e9]
 repeat (first | (refine And.intro ?_ ?_; · first | exact ⟨osi, .inr trivial, om, om⟩) | refine peel ?_)
 refine kas ?_
 refine ZO (fun H' n' => H' n = some (.arr 3 1 ((hd ++ lowB (sumF [hd]) ++ b).map Zd)) ∧ (∀ k, k < n → H' k = H k) ∧ n' = n + 1) ⟨by simp only [Pk, List.map_append], fun k hk => (Pi _ _ om).trans (hl1 k hk), rfl⟩ fun H2 n2 ⟨r2, hl2, hn2⟩ => ?_
 subst hn2
 refine kbS ?_
 have e10 : List.take (hd ++ lowB (sumF [hd]) ++ b).length ((hd ++ lowB (sumF [hd]) ++ b).map Zd) = (hd ++ lowB (sumF [hd]) ++ b).map Zd := List.take_of_length_le osi
 have hl9 : (hd ++ lowB (sumF [hd]) ++ b).length = 8 + b.length := by rw [List.length_append, hl8]
 refine Zf zs [2, 3] fun K V => ?_
 try simp only [go_sem, seval, List.length_map, ZZ, hu, e1, e4, YB, Option.getD_some, Option.getD_none, r2, e10]
 repeat refine peel ?_
 refine Zo func133 rfl rfl rfl ((WY b om _ _)) ?_
 try simp only [go_sem, seval, List.length_map, ZZ, hu, e1, e4, YB, Option.getD_some, Option.getD_none, r2, e10]
 repeat (first | (refine And.intro ?_ ?_; · first | exact ⟨osi, .inr trivial, by rw [hl9, hll]; omega, by rw [hl9, hll]; omega⟩) | refine peel ?_)
 refine kas ?_
 refine ar ?_
 refine ⟨_, rfl, fun k hk => by rw [if_neg om]; exact hl2 k hk, ?_⟩
 rw [hfb]
 exact .tup (.cons (.osl (Pk _ _ _) (Nat.le_refl _) oz (by rw [List.drop_zero, List.take_of_length_le oz, ← List.map_append]; exact XR _ (Z0 _ _))) (.cons (.kl trivial) .nil))
theorem or_add {x y k : Nat} (h : y < 2 ^ k) : x * 2 ^ k ||| y = x * 2 ^ k + y := by
 rw [← Nat.shiftLeft_eq, ← Nat.shiftLeft_add_eq_or_of_lt h]
theorem hd4_num {b : List UInt8} (h : 4 ≤ b.length) : hd4 b = numB 0 ((b.drop 0).take 4) := by
 obtain ⟨x, y, z, w, l, rfl⟩ : ∃ x y z w l, b = x :: y :: z :: w :: l := by
   match b, h with
   | x :: y :: z :: w :: l, _ => exact ⟨x, y, z, w, l, rfl⟩
 have hx := x.toNat_lt; have hy := y.toNat_lt; have hz := z.toNat_lt; have hw := w.toNat_lt
 show ((x.toNat * 2 ^ 24 ||| y.toNat * 2 ^ 16) ||| z.toNat * 2 ^ 8) ||| w.toNat = 256 * (256 * (256 * (256 * 0 + x.toNat) + y.toNat) + z.toNat) + w.toNat
 rw [Nat.or_assoc, or_add (x := z.toNat) (y := w.toNat) (k := 8) om, Nat.or_assoc, or_add (x := y.toNat) (y := z.toNat * 2 ^ 8 + w.toNat) (k := 16) om, or_add (x := x.toNat) (k := 24) om]
 omega
theorem NHk1.eqs {P Q : Prop} (g : Imp P Q := by (try simp only [go_sem, seval, List.length_map, k4, k8, k12, m4, m8, m0, m12]); exact Pm) : Imp P Q := g
set_option maxHeartbeats 1600000 in
open NHk1 NY in
theorem Li (b : List UInt8) (hb9 : b.length ≤ 1099511627776) (H : Heap) (n : Nat) : Ret prog 97 [bys b, .int .i64 0] H n (.tup [bys (rfQ b).1, .int .i64 (rfQ b).2.1, .int .i64 (rfQ b).2.2]) H n := by
 obtain ⟨N, hNd⟩ : ∃ N, N = numB 0 ((b.drop 0).take 4) := ⟨_, rfl⟩
 have hrf : rfQ b = rfN b N := by
   unfold rfQ
   by_cases h : 4 ≤ b.length
   ·rw [hd4_num h, hNd]
   ·unfold rfN; rw [if_pos om, if_pos om]
 rw [hrf]
 clear hrf
 have hNl : N < 4294967296 := by
   have h1 := Nb ((b.drop 0).take 4) 0
   have h2 : 256 ^ ((b.drop 0).take 4).length ≤ 256 ^ 4 := Nat.pow_le_pow_right om (by rw [List.length_take]; omega)
   rw [hNd]; unfold numB; omega
 have k4 : IntKind.i64.wrap 4 = 4 := odc
 have k8 : IntKind.i64.wrap 8 = 8 := odc
 have k12 : IntKind.i64.wrap 12 = 12 := odc
 have m4 : (4 : Int).toNat = 4 := rfl
 have m8 : (8 : Int).toNat = 8 := rfl
 have m0 : (0 : Int).toNat = 0 := rfl
 have m12 : (12 : Int).toNat = 12 := rfl
 refine Ret.fin ?_
 refine fw func97 ntmps97 results97 ?_
 refine kb1 ?_
 refine Za fun K1 hK1 => ?_
 refine rc zs [0, 1, 11] func132 ((VQ b 0 _ _)) ?_
 refine Zb ?_ ?_ <;> intro hb
 ·exact kcQ
 refine kay ?_
 refine Za fun K2 hK2 => ?_
 refine rg zs [0, 1, 16] ?_
 refine Zb ?_ ?_ <;> intro hb
 ·have h8 : b.length < 8 := by have := of_decide_eq_true hb; rw [w64 om om] at this; omega
  have hw : rfN b N = ([], 0, 10) := by unfold rfN; rw [if_pos h8]
  exact kaf
 have h8 : 8 ≤ b.length := by have := of_decide_eq_false hb; rw [w64 om om] at this; omega
 have e2 : List.take 4 (b.map Zd) = (b.take 4).map Zd := by rw [List.map_take]
 have e3 : List.drop 4 (List.take 8 (b.map Zd)) = ((b.drop 4).take 4).map Zd := by rw [List.drop_take, ← List.map_drop, ← List.map_take]
 refine kaQ ?_
 refine Za fun K3 hK3 => ?_
 refine YS rfl zs [0, 1, 30] [.m, .m, .m, .q, .q, .c, .m, .m, .q, .m, .q, .q, .c, .q] [0, 1, 2, 3, 4, 5, 6, 7, 8, 9, 10, 11, 12, 13] [0, 1, 2, 3, 4, 5, 6, 7, 8, 9, 10, 11, 12, 13] (by kernel_rfl) (fun _ _ _ _ _ h => h) fun K V => ?_
 refine kbt ?_
 repeat (first | (refine And.intro ?_ ?_; · first | exact ⟨om, fun m h => h.elim⟩) | refine peel ?_)
 refine ZY func133 rfl rfl rfl (fun _ n => (WY (b.take 4) (by rw [List.length_take]; omega) _ _)) ?_
 refine kbt ?_
 repeat (first | (refine And.intro ?_ ?_; · first | exact ⟨om, fun m h => h.elim⟩) | refine peel ?_)
 refine ZY func46 rfl rfl rfl (fun _ n => (Ua (lowB (sumF [b.take 4])) ((b.drop 4).take 4) _ _)) ?_
 refine kbt ?_
 refine kad ?_
 refine Zb ?_ ?_ <;> intro hb
 ·have hs1 : (lowB (sumF [b.take 4]) == (b.drop 4).take 4) = false := osb
  have hw : rfN b N = ([], 0, 12) := by unfold rfN; rw [if_neg om, if_pos (by rw [BEq.comm]; exact hs1)]
  exact kaf
 have hs1 : (lowB (sumF [b.take 4]) == (b.drop 4).take 4) = true := osb
 have hs2 : ¬ ((b.drop 4).take 4 == lowB (sumF [b.take 4])) = false := by rw [BEq.comm, hs1]; simp
 have eN : IntKind.i64.wrap (N : Int) = (N : Int) := w64 om om
 refine kba ?_
 refine Zf zs [0, 1, 7] fun K V => ?_
 try simp only [go_sem, seval, List.length_map, k4, k8, k12, m4, m8, m0, m12, eN]
 repeat refine peel ?_
 refine Zo func134 rfl rfl rfl ((hNd ▸ c_ref1_number b hb9 0 4 om om _ _)) ?_
 try simp only [go_sem, seval, List.length_map, k4, k8, k12, m4, m8, m0, m12, eN]
 refine kad ?_
 refine Za fun K4 hK4 => ?_
 refine rg zs [0, 1, 7, 36] ?_
 refine Zb ?_ ?_ <;> intro hb
 ·have hw : rfN b N = ([], 0, 13) := by unfold rfN; rw [if_neg om, if_neg hs2, if_pos ott]
  exact kaf
 have hN2 : ¬ 1048576 < N := otf
 have j0 : IntKind.i64.wrap ((b.length : Int) - 0) = (b.length : Int) := by rw [w64 om om]; omega
 have j1 : IntKind.i64.wrap ((b.length : Int) - 8) = ((b.length - 8 : Nat) : Int) := by rw [w64 om om]; omega
 have j2 : IntKind.i64.wrap ((N : Int) + 4) = ((N + 4 : Nat) : Int) := by rw [w64 om om]; omega
 have j3 : IntKind.i64.wrap (8 + (N : Int)) = ((8 + N : Nat) : Int) := by rw [w64 om om]; omega
 have j4 : IntKind.i64.wrap (12 + (N : Int)) = ((8 + N + 4 : Nat) : Int) := by rw [w64 om om]; omega
 refine kb3 ?_
 refine Za fun K5 hK5 => ?_
 refine Zf zs [0, 1, 7, 44] fun K V => ?_
 try simp only [go_sem, seval, List.length_map, k4, k8, k12, m4, m8, m0, m12, j0, j1, j2]
 refine kad ?_
 refine Zb ?_ ?_ <;> intro hb
 ·have hw : rfN b N = ([], 0, 10) := by unfold rfN; rw [if_neg om, if_neg hs2, if_neg hN2, if_pos ott]
  exact kaf
 have hL : ¬ b.length - 8 < N + 4 := otf
 have e5 : (b.take (8 + N)).drop 8 = (b.drop 8).take N := by rw [List.drop_take]; congr 1; omega
 have e6 : List.drop (8 + N) (List.take (8 + N + 4) (b.map Zd)) = ((b.drop (8 + N)).take 4).map Zd := by rw [List.drop_take, ← List.map_drop, ← List.map_take]; congr 2; omega
 refine ak ?_
 apply hK5
 refine Zf zs [0, 1, 7, 8] fun K V => ?_
 try simp only [go_sem, seval, List.length_map, k4, k8, k12, m4, m8, m0, m12, j3]
 repeat refine peel ?_
 refine Zo func58 rfl rfl rfl ((e5 ▸ QN b hb9 8 (8 + N) om om _ _)) ?_
 try simp only [go_sem, seval, List.length_map, k4, k8, k12, m4, m8, m0, m12, j3]
 refine kad ?_
 refine Za fun K6 hK6 => ?_
 refine YS rfl zs [1, 7, 8, 66] [.m, .c, .m, .m, .q, .m, .q, .m, .q, .m, .q, .q, .c, .q] [0, 1, 2, 3, 4, 5, 6, 7, 8, 9, 10, 11, 12, 13] [0, 1, 2, 3, 4, 5, 6, 7, 8, 9, 10, 11, 12, 13] (by kernel_rfl) (fun _ _ _ _ _ h => h) fun K V => ?_
 refine kbJ ?_
 repeat refine peel ?_
 refine ZY func133 rfl rfl rfl (fun _ n => (WY ((b.drop 8).take N) (by rw [List.length_take]; omega) _ _)) ?_
 refine kbJ ?_
 repeat (first | (refine And.intro ?_ ?_; · first | exact ⟨om, om, om, fun m h => h.elim⟩) | refine peel ?_)
 refine ZY func46 rfl rfl rfl (fun _ n => (Ua (lowB (sumF [(b.drop 8).take N])) ((b.drop (8 + N)).take 4) _ _)) ?_
 refine kbJ ?_
 refine kad ?_
 refine Zb ?_ ?_ <;> intro hb
 ·have hs3 : (lowB (sumF [(b.drop 8).take N]) == (b.drop (8 + N)).take 4) = false := osb
  have hw : rfN b N = ([], 0, 12) := by unfold rfN; rw [if_neg om, if_neg hs2, if_neg hN2, if_neg hL, if_pos (by rw [BEq.comm]; exact hs3)]
  exact kaf
 have hs3 : (lowB (sumF [(b.drop 8).take N]) == (b.drop (8 + N)).take 4) = true := osb
 have hw : rfN b N = ((b.drop 8).take N, ((8 + N + 4 : Nat) : Int), 0) := by unfold rfN; rw [if_neg om, if_neg hs2, if_neg hN2, if_neg hL, if_neg (by rw [BEq.comm, hs3]; simp)]
 refine ak ?_
 apply hK6
 refine Zf zs [4, 5, 6] fun K V => ?_
 try simp only [go_sem, seval, List.length_map, k4, k8, k12, m4, m8, m0, m12, j4]
 refine kad ?_
 refine ar ?_
 rw [hw]
 exact ⟨_, rfl, .kl ⟨WM _ _, trivial, trivial, trivial⟩⟩
end Go.Proofs.YtkmkbndcekklmaaGreatDoor