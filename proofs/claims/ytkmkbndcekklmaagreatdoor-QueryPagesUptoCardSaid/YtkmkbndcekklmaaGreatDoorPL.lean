/- Own layer: what a law's source keeps, walked. Of the program; no condition. -/
import Derived.Test.YtkmkbndcekklmaaGreatDoorPK
import Derived.Test.YtkmkbndcekklmaaGreatDoorPF
import Derived.Test.YtkmkbndcekklmaaGreatDoorPJ
set_option linter.unusedSimpArgs false
set_option linter.unusedVariables false
set_option maxRecDepth 10000
namespace Go.Proofs.YtkmkbndcekklmaaGreatDoor
open Go Go.Sx Go.Rt Go.Proofs Tryz
theorem srcs_frz {rows : List RowE} {err : Int} {ks kw kt lo m vw vt : Nat} {kb : List (Nat × List UInt8)} {tels : List AV} {tk : List Nat} {H : Heap} {n : Nat} (h : SrcS rows err ks kw kt lo m vw vt kb tels tk H n) {i : Nat} (hi : i < tels.length) : i < rows.length ∧ Frz H 0 (.osl kt vt i 1) (.sl 2 ([rows.getD i default].map Zm)) := by
 have hl := h.told.own.len
 rw [List.length_map, List.length_take] at hl
 have hir : i < rows.length := om
 refine ⟨hir, .osl h.ht (Nat.zero_le _) om ?_⟩
 obtain ⟨_, k2, _, _, _, ho, _⟩ := h.told.own.nth hi
 have e1 : (tels.drop i).take 1 = [nth tels i] := by rw [List.drop_eq_getElem_cons hi, List.take_succ_cons, List.take_zero]; simp [nth, List.getD, List.getElem?_eq_getElem hi]
 have e2 : nth ((rows.take m).map Zm) i = Zm (rows.getD i default) := by
   rw [Zr Zm (rows.take m) i (by rw [List.length_take]; omega)]
   congr 1
   simp [List.getD, List.getElem?_take, show i < m by omega]
 rw [e1]
 rw [e2] at ho
 exact .cons (ho.frz fun _ _ => Nat.zero_le _) .nil
theorem NE30.eqs {P Q : Prop} (g : Imp P Q := by (try simp only [go_sem, seval, hO, hW, hT, hrs, e1, e2, e3, e4, e5, g5, g6, hnth, hpo1, b1, b2, b4, YK, Nat.add_assoc, List.length_map, List.length_append, List.length_cons, List.length_nil, Int.toNat_natCast, Option.getD_some, Option.getD_none, Nat.zero_add]); exact NW) : Imp P Q := g
theorem NE30.sd {P : Prop} (g : P := by first | (intro _; exact ⟨om, om, by simp [Wt]; omega, fun m h => h.elim⟩) | exact ⟨om, hez _ (nth_mem2 om)⟩ | fail) : P := g
set_option maxRecDepth 100000 in
set_option maxHeartbeats 6400000 in
open NE30 NZ in
theorem Q9 (rows : List RowE) (err : Int) (hrw : Xn rows) (ks kw kt lo m vw vt : Nat) (kb : List (Nat × List UInt8)) (tels : List AV) (tk : List Nat) (H : Heap) (n : Nat) (h : SrcS rows err ks kw kt lo m vw vt kb tels tk H n) (hkl : kb.length ≤ 4398046511104) :
   Zl prog 74 [.loc ks 0 0 0 []] H n (fun res H' n' => res = .val (.bool true) ∧ n' = n ∧ ∀ k, (∀ p ∈ kb, k ≠ p.1) → H' k = H k) := by
 obtain ⟨hrl, hrb⟩ := hrw
 have hO := h.ho
 unfold XR at hO
 obtain ⟨d1, d2, d3, d4, d5, d6, d7⟩ := h.d
 have hW := h.hw
 have hT := h.ht
 have htl : tels.length ≤ 1048576 := by have := h.told.own.len; rw [List.length_map, List.length_take] at this; omega
 have hkr : ∀ p ∈ kb, lo ≤ p.1 ∧ p.1 < n := fun p hp => h.told.lo _ (h.wk p hp)
 have hrs : ∀ r, (Zm r).sz = 2 := Vf
 have e1 := d7
 have e2 := d7
 have e3 := d7
 have e4 := d7
 have e5 := d7
 have g5 := d7
 have g6 := d7
 have hnth := d7
 have hpo1 := d7
 have b1 := d7
 have b2 := d7
 have b4 := d7
 refine fw func74 ntmps74 results74 ?_
 refine rg zs [0] ?_
 refine rg zs [0, 3] ?_
 refine Zb fun K1 hK1 => ?_
 refine rg zs [0, 3, 4] ?_
 refine Zv ?_
 refine Zp (fun T' H' n' => ∃ i : Nat, i ≤ tels.length ∧ T' = tl [(0, .loc ks 0 0 0 []), (3, .bool true), (4, .int .i64 i)] ∧ H = H' ∧ n = n') (fun T' _ _ => tels.length - iv (T' 4)) ?_ ?_
 ·exact ⟨0, Nat.zero_le _, rfl, rfl, rfl⟩
 rintro T1 H1 n1 ⟨i, hi, rfl, rfl, rfl⟩
 refine Zb fun K2 hK2 => ?_
 refine rg zs [0, 3, 4, 14] ?_
 refine Za ?_ ?_ <;> intro hb
 ·have hci : i < tels.length := ott
  obtain ⟨hir, hfz⟩ := srcs_frz h hci
  have e1 : IntKind.i64.wrap ((i : Int) + 1) = ((i + 1 : Nat) : Int) := w1 om
  have e2 : i + 1 - i = 1 := om
  have e5 : List.drop i (List.take (i + 1) (rows.map Zm)) = [rows.getD i default].map Zm := by rw [← List.map_take, ← List.map_drop, VA rows hir, List.drop_append_of_le_length (by rw [List.length_take]; omega), List.drop_of_length_le (by rw [List.length_take]; omega)]; rfl
  have hrc := (hrb _ (Yo rows hir)).2.1
  generalize rows.getD i default = r at *
  have hsr : ∀ m, Ret prog 43 [.osl kt vt i 1, .sl 2 ([r].map Zm)] H m (.bool true) H m := fun m => by
    have := UK [r] [r] osi osi (fun x hx => by rw [List.mem_singleton.1 hx]; exact hrc) (fun x hx => by rw [List.mem_singleton.1 hx]; exact hrc) (fun _ => none) 0
    rw [decide_eq_true rfl] at this
    exact Ret.lend trivial (.cons hfz (.cons (.kl (XF Zm (fun r => kl_row r _) _)) .nil)) this
  refine ak ?_
  apply hK2
  refine bk fun K3 hK3 => ?_
  refine dx1 zs [0, 3, 4] [.m, .m, .m, .q, .q, .q, .m, .m, .q, .q, .m, .q, .q, .q, .m, .m, .q, .q, .c, .q, .q] [0, 1, 2, 3, 4, 5, 6, 7, 8, 9, 10, 11, 12, 13, 14, 15, 16, 17, 18, 19, 20] [0, 1, 2, 3, 4, 5, 6, 7, 8, 9, 10, 11, 12, 13, 14, 15, 16, 17, 18, 19, 20] fun K V => ?_
  refine cq func43 (fun _ n => (hsr n)) ?_
  apply V; clear V K
  refine ns ?_
  apply hK3
  refine rg1 zs [0, 3, 4] ?_
  exact ⟨⟨i + 1, om, rfl⟩, om⟩
 refine ax ?_
 apply hK1
 refine Zb fun K4 hK4 => ?_
 refine rg zs [0, 3, 5] ?_
 refine Zv ?_
 refine Zp (fun T' H' n' => ∃ i : Nat, i ≤ kb.length ∧ T' = tl [(0, .loc ks 0 0 0 []), (3, .bool true), (5, .int .i64 i)] ∧ H' ks = some (.arr 0 5 [XR rows err m kw vw kb.length kt vt tels.length]) ∧ H' kw = some (.arr vw 1 (kb.map YK)) ∧ (∀ p ∈ kb.drop i, H' p.1 = some (Xu p)) ∧ (∀ k, (∀ p ∈ kb, k ≠ p.1) → H' k = H k) ∧ n = n') (fun T' _ _ => kb.length - iv (T' 5)) ?_ ?_
 ·exact ⟨0, Nat.zero_le _, rfl, h.ho, h.hw, fun p hp => h.wb p hp, fun _ _ => rfl, rfl⟩
 rintro T1 H1 n1 ⟨i, hi, rfl, b1, b2, hdr, hlow, rfl⟩
 unfold XR at b1
 refine Zb fun K5 hK5 => ?_
 refine rg zs [0, 3, 5, 43] ?_
 refine Za ?_ ?_ <;> intro hb
 ·have hci : i < kb.length := ott
  have hnth : nth (kb.map YK) i = YK (kb.getD i default) := Zr YK _ i hci
  have hpm := Yo kb hci
  have hpd : kb.getD i default ∈ kb.drop i := by rw [YM _ i hci]; simp
  have hpo := hdr _ hpd
  have hne : ∀ p ∈ kb.drop (i + 1), p.1 ≠ (kb.getD i default).1 := fun p hp e => by
    have hn := h.wd
    rw [← List.take_append_drop i kb, YM _ i hci, List.map_append, List.map_cons, List.nodup_append] at hn
    exact (List.nodup_cons.1 hn.2.1).1 (List.mem_map.2 ⟨p, hp, e⟩)
  have hB1 := hkr _ hpm
  have hB2 := h.wl _ hpm
  generalize kb.getD i default = p at *
  have e1 : IntKind.i64.wrap ((i : Int) + 1) = ((i + 1 : Nat) : Int) := w1 om
  have e2 : IntKind.i64.wrap (((p.2.length + 5 : Nat) : Int) - 5) = (p.2.length : Int) := by rw [w64 om om]; omega
  have e4 : p.2.length + 5 - p.2.length = 5 := om
  have g5 : (ks = p.1) = False := oz
  have g6 : (kw = p.1) = False := oz
  have hpo1 := hpo
  unfold Xu at hpo1
  have hsm : ∀ (Hc : Heap), Hc p.1 = some (Xu p) → ∀ m, Ret prog 26 [.osl p.1 2 p.2.length 5, bys Wt] Hc m (.bool true) Hc m := fun Hc hc m => by
    exact kbC
  refine ak ?_
  apply hK5
  refine bk fun K6 hK6 => ?_
  refine rg zs [0, 3, 5, 6] ?_
  refine rk zs [0, 3, 5] fun K V => ?_
  refine cg func26 (fun _ => (hsm _ hpo _)) ?_
  apply V; clear V K
  refine rg zs [0, 3, 5, 7] ?_
  refine Zv ?_
  refine Zp (fun T' H' n' => ∃ (j : Nat) (els : List AV), j ≤ p.2.length + 5 ∧ els.length = p.2.length + 5 ∧ (∀ x ∈ els, x.sz = 1) ∧ T' = tl [(0, .loc ks 0 0 0 []), (3, .bool true), (5, .int .i64 i), (7, .int .i64 j)] ∧ H' ks = some (.arr 0 5 [XR rows err m kw vw kb.length kt vt tels.length]) ∧ H' kw = some (.arr vw 1 (kb.map YK)) ∧ H' p.1 = some (.arr 2 1 els) ∧ (∀ p ∈ kb.drop (i + 1), H' p.1 = some (Xu p)) ∧ (∀ k, (∀ p ∈ kb, k ≠ p.1) → H' k = H k) ∧ n = n') (fun T' _ _ => p.2.length + 5 - iv (T' 7)) ?_ ?_
  ·exact ⟨0, (p.2 ++ Wt).map Zd, om, by simp [Wt], (fun x hx => by obtain ⟨y, _, rfl⟩ := List.mem_map.1 hx; rfl), rfl, b1, b2, hpo, fun p hp => hdr p (mem_drop hci p hp), hlow, rfl⟩
  rintro T1 H1 n1 ⟨j, els, hj, hel, hez, rfl, b1, b2, b4, hdr2, hlow2, rfl⟩
  unfold XR at b1
  refine Zb fun K7 hK7 => ?_
  refine rg zs [0, 3, 5, 7, 78] ?_
  refine Za ?_ ?_ <;> intro hb
  ·have hcj : j < p.2.length + 5 := ott
   have e3 : IntKind.i64.wrap ((j : Int) + 1) = ((j + 1 : Nat) : Int) := w1 om
   refine ak ?_
   apply hK7
   refine bk fun K8 hK8 => ?_
   refine rg1 zs [0, 3, 5, 7] ?_
   apply hK8
   refine rg1 zs [0, 3, 5, 7] ?_
   refine ⟨⟨j + 1, els.set j (.int .u8 88), om, by rw [List.length_set]; exact hel, fun x hx => ?_, rfl, ?_⟩, om⟩
   ·rcases List.mem_or_eq_of_mem_set hx with h9 | h9; exact hez x h9; rw [h9]; rfl
   ·(repeat' apply And.intro) <;> first | rfl | ((try simp only [NV]); (repeat first | rw [if_pos rfl] | rw [if_pos trivial] | rw [if_neg om]); first | done | exact b1 | exact b2 | exact b4) | (intro p2 hp2; have := hne p2 hp2; refine ohx ?_; exact hdr2 p2 hp2) | (intro k hk; have := hk p hpm; refine ohx ?_; exact hlow2 k hk) | omega
  refine ax ?_
  apply hK6
  refine rg1 zs [0, 3, 5] ?_
  refine ⟨⟨i + 1, om, rfl, ?_⟩, om⟩
  (repeat' apply And.intro) <;> first | rfl | exact b1 | exact b2 | exact hdr2 | exact hlow2
 refine ax ?_
 apply hK4
 refine rg zs [2] ?_
 refine ar ?_
 exact hlow
theorem chosenE_len (q : QryE) (t : Option Tst) (l : List CelE) : (ZC q t l).length ≤ l.length := List.length_filter_le _ _
theorem Js {nf : Nat} {q : QryE} {t : Option Tst} {tk : List UInt8 → List UInt8} {start : List UInt8} {has : Bool} {err : Int} : ∀ (l : List RowE) (m : Nat) (last : Option (List UInt8)) (acc : List RowE), (∀ x ∈ l, x.cells.length ≤ 1048576) → (∀ x ∈ acc, x.cells.length ≤ 1048576) → acc.length ≤ m →
   (runG nf q t tk start has err m last acc l).2.1 ≤ m + l.length + 1 ∧ (runG nf q t tk start has err m last acc l).1.rows.length ≤ m + l.length ∧ ∀ x ∈ (runG nf q t tk start has err m last acc l).1.rows, x.cells.length ≤ 1048576
 | [], m, last, acc, hl, ha, hm => by
   unfold runG
   split
   ·exact ⟨osi, by simp [pgZ], fun x hx => by simp [pgZ] at hx⟩
   ·exact ⟨osi, by simpa using hm, ha⟩
 | y :: l, m, last, acc, hl, ha, hm => by
   have hc := chosenE_len q t y.cells
   have hy := hl y osi
   have hl2 : ∀ x ∈ l, x.cells.length ≤ 1048576 := fun x hx => hl x (by simp [hx])
   have ha2 : ∀ x ∈ acc ++ [(⟨y.row, ZC q t y.cells⟩ : RowE)], x.cells.length ≤ 1048576 := fun x hx => by
     rcases List.mem_append.1 hx with h | h
     ·exact ha x h
     ·rw [List.mem_singleton.1 h]; simp only; omega
   have r1 := Js (nf := nf) (q := q) (t := t) (tk := tk) (start := start) (has := has) (err := err) l (m + 1) (some y.row) acc hl2 ha om
   have r2 := Js (nf := nf) (q := q) (t := t) (tk := tk) (start := start) (has := has) (err := err) l (m + 1) (some y.row) (acc ++ [⟨y.row, ZC q t y.cells⟩]) hl2 ha2 (by simp <;> omega)
   unfold runG
   simp only [List.length_cons]
   split
   ·exact ⟨by simp <;> omega, by simp [pgZ], fun x hx => by simp [pgZ] at hx⟩
   split
   ·exact ⟨by simp <;> omega, by simp [pgZ], fun x hx => by simp [pgZ] at hx⟩
   split
   ·exact ⟨by simp <;> omega, by simp <;> omega, ha⟩
   split
   ·exact ⟨om, om, r1.2.2⟩
   split
   ·exact ⟨by simp <;> omega, by simp <;> omega, ha2⟩
   ·exact ⟨om, om, r2.2.2⟩
theorem runE_small {fs : List Fml} {q : QryE} {clock : Int} {rows : List RowE} {err : Int} (hr : Xn rows) :
   (runE fs q clock (some (rows, err))).2.1 ≤ 1048577 ∧ (runE fs q clock (some (rows, err))).1.rows.length ≤ 1048576 ∧ ∀ x ∈ (runE fs q clock (some (rows, err))).1.rows, x.cells.length ≤ 1048576 := by
 unfold runE
 split
 ·exact ⟨osi, by simp [pgZ], fun x hx => by simp [pgZ] at hx⟩
 split
 ·exact ⟨osi, by simp [pgZ], fun x hx => by simp [pgZ] at hx⟩
 ·have := Js (nf := fs.length) (q := q) (t := Yi fs q) (tk := tokB q (atE q clock).1) (start := (ZV q).1) (has := (ZV q).2.1) (err := err) rows 0 none [] (fun x hx => (hr.2 x hx).2.1) (fun x hx => by cases hx) osi
  have h1 := hr.1
  exact ⟨by simp only; omega, by simp only; omega, this.2.2⟩
theorem kl_pg (p : PgE) (n : Nat) : (pgAV p).kl n := ⟨XF Zm (fun x => kl_rowAV x n) _, Xd _ _, trivial, trivial⟩
theorem NE40.eqs {P Q : Prop} (g : Imp P Q := by (try simp only [go_sem, seval, hszs, hags, hmos, hszq, hagq, hmoq, hszp, hagp, hmop, f1, f2, f3, b1, b2, b3, b4, b5, b6, d1, d2, d3, d5, e1, e2, e3, e4, Nat.add_assoc, List.length_map, Int.toNat_natCast, Option.getD_some, Option.getD_none]); exact NW) : Imp P Q := g
set_option maxRecDepth 100000 in
set_option maxHeartbeats 6400000 in
open NE40 NY in
theorem LJ (fs : List Fml) (hfs : fs.length ≤ 1048576) (q : QryE) (hq : q.fine) (clock : Int) (rows : List RowE) (hrw : Xn rows) (err : Int) (H : Heap) (n : Nat) (hG : GOK 1 1 H n) :
   Ret prog 41 [Zf fs, Ze q, .int .i64 clock, .sl 2 (rows.map Zm), .int .i64 err] H n (.tup [pgAV (runE fs q clock (some (rows, err))).1, .int .i64 (runE fs q clock (some (rows, err))).2.2, .bool true]) H n := by
 obtain ⟨s1, s2, s3⟩ := runE_small (fs := fs) (q := q) (clock := clock) (err := err) hrw
 have hgoes := goesE_run fs q clock rows err
 have hz : ∃ z, z = runE fs q clock (some (rows, err)) := ⟨_, rfl⟩
 obtain ⟨z, hz⟩ := hz
 rw [← hz] at s1 s2 s3 ⊢
 have hszs : (Zf fs).sz = 1 := rfl
 have hags : (Zf fs).isAgg = true := rfl
 have hmos : (Zf fs).memOK = true := rfl
 have hszq : (Ze q).sz = 10 := ZH q
 have hagq : (Ze q).isAgg = true := rfl
 have hmoq : (Ze q).memOK = true := rfl
 have hszp : (pgAV z.1).sz = 3 := rfl
 have hagp : (pgAV z.1).isAgg = true := rfl
 have hmop : (pgAV z.1).memOK = true := rfl
 have hgo : ∀ (Hc : Heap) (m : Nat), Ret prog 57 [Zf fs, Ze q, .int .i64 clock, .sl 2 (rows.map Zm), .int .i64 err] Hc m (.tup [pgAV z.1, .int .i64 z.2.1, .int .i64 z.2.2]) Hc m := fun Hc m => by
   have := c_ref13_Goes fs hfs q hq clock rows hrw err Hc m
   rw [hgoes, ← hz] at this
   exact this
 have hsp : ∀ (Hc : Heap) (m : Nat), Ret prog 21 [pgAV z.1, pgAV z.1] Hc m (.bool true) Hc m := fun Hc m => by
   have := Lg z.1 z.1 s2 s2 s3 s3 Hc m
   rw [decide_eq_true rfl] at this
   exact this
 have f1 : (n = n + 1) = False := osi
 have f2 : (n = n + 2) = False := osi
 have f3 : (n + 1 = n + 2) = False := osi
 have b1 := hszs
 have b2 := hszs
 have b3 := hszs
 have b4 := hszs
 have b5 := hszs
 have b6 := hszs
 have d1 := hszs
 have d2 := hszs
 have d3 := hszs
 have d5 := hszs
 have e1 := hszs
 have e2 := hszs
 have e3 := hszs
 have e4 := hszs
 refine Ret.fin ?_
 refine fw func41 ntmps41 results41 ?_
 refine rg zs [2, 3, 4, 5, 6, 10] ?_
 refine rk zs [2, 3, 4, 5, 6, 10, 13] fun K V => ?_
 refine cK func33 (x_law13_laid q hq _ _) ?_ ?_
 ·intro p H' n' hc; obtain ⟨_, _, k1, k2, k3, k4, kw, kf, vf, hr, _⟩ := hc; cases hr
 intro rr H1 n1 hc
 obtain ⟨hn1, hlo1, k1, k2, k3, k4, kw, kf, vf, hr, hL, hLk⟩ := hc
 cases hr
 have b1 : (Xq q k1 k2 k3 k4 kw kf vf).sz = 12 := rfl
 have b2 : (Xq q k1 k2 k3 k4 kw kf vf).memOK = true := rfl
 have b3 : (Xq q k1 k2 k3 k4 kw kf vf).isAgg = true := rfl
 refine nz ?_
 apply V; clear V K
 refine rg zs [2, 3, 4, 5, 6, 10, 13, 14] ?_
 refine Z5 (n1 + 1) 1 (ver := 0) (e := 5) (els := [.agg [.sl 2 (rows.map Zm), .int .i64 err, .int .i64 0, .nilsl, .nilsl]]) (els' := [.agg [.sl 2 (rows.map Zm), .int .i64 err, .int .i64 0, .osl (n1 + 2) 0 0 0, .nilsl]]) oh ⟨Adp.agg ⟨.refl _ _, .refl _ _, .refl _ _, Adp.nilsl _, .refl _ _, trivial⟩, trivial⟩ ?_
 refine Z5 (n1 + 1) 2 (ver := 0) (e := 5) (els := [.agg [.sl 2 (rows.map Zm), .int .i64 err, .int .i64 0, .osl (n1 + 2) 0 0 0, .nilsl]]) (els' := [XR rows err 0 (n1 + 2) 0 0 (n1 + 3) 0 0]) oh ⟨Adp.agg ⟨.refl _ _, .refl _ _, .refl _ _, .refl _ _, Adp.nilsl _, trivial⟩, trivial⟩ ?_
 refine ZU (fun H' n' => SrcS rows err (n1 + 1) (n1 + 2) (n1 + 3) (n1 + 4) 0 0 0 [] [] [] H' n' ∧ H' n1 = some (.arr 0 12 [Xq q k1 k2 k3 k4 kw kf vf]) ∧ (∀ k, k < n1 → H' k = H1 k) ∧ n' = n1 + 4) ?_ fun H3 n3 ⟨hS, b5, hlo3, hn3⟩ => ?_
 ·exact ⟨⟨ohr, ohr, fun p hp => (by cases hp), fun p hp => (by cases hp), osi, oh, Pile.nil _ _ _, om, fun p hp => (by cases hp)⟩, oh, fun k hk => oh, rfl⟩
 subst hn3
 have hlow3 : ∀ k, k < n + 3 → H3 k = ((H.put n (some (.arr 0 1 [Zf fs]))).put (n + 1) (some (.arr 0 10 [Ze q]))).put (n + 2) (some (.arr 0 3 [.agg [.nilsl, .nilsl, .bool false]])) k := fun k hk => (hlo3 k om).trans (hlo1 k hk)
 have c1 : H3 n = some (.arr 0 1 [Zf fs]) := (hlow3 n om).trans oh
 have c2 : H3 (n + 1) = some (.arr 0 10 [Ze q]) := (hlow3 (n + 1) om).trans oh
 have c3 : H3 (n + 2) = some (.arr 0 3 [.agg [.nilsl, .nilsl, .bool false]]) := (hlow3 (n + 2) om).trans oh
 have c0 : ∀ k, k < n → H3 k = H k := fun k hk => (hlow3 k om).trans oh
 have hL3 : LdS q k1 k2 k3 k4 kw kf vf H3 := hL.on fun k hk => hlo3 k (hLk k hk).2
 have hG3 : GOK 1 1 H3 (n1 + 4) := hG.at2 (c0 _ hG.gek) (c0 _ hG.get) om
 refine Zg zs [2, 3, 4, 5, 6, 10, 13, 14, 15, 16] fun K V => ?_
 try simp only [go_sem, seval, hszs, hags, hmos, hszq, hagq, hmoq, hszp, hagp, hmop, f1, f2, f3, b1, b2, b3, b4, b5, b6, d1, d2, d3, d5, e1, e2, e3, e4, Nat.add_assoc, List.length_map, Int.toNat_natCast, Option.getD_some, Option.getD_none, Xq, Jg, c1, c2]
 repeat (first | (refine And.intro ?_ ?_; · first | exact ⟨rfl, rfl⟩) | refine peel ?_)
 refine cK func18 ((RunK.frz om (Lr fs hfs q hq clock rows err hrw (n1 + 1) (n1 + 2) (n1 + 3) (n1 + 4) 0 0 hG3 hL3.ql (fun j hj => by have := hLk j (by simp only [List.mem_cons, List.not_mem_nil, or_false] at hj; omega); omega) hS))) ?_ ?_
 ·intro p H' n' hc; obtain ⟨_, _, vw, vt, kb, tels, tk, hr, _⟩ := hc; cases hr
 intro rr H4 n4 hc
 rw [← hz] at hc
 obtain ⟨hn4, hlo4, vw, vt, kb, tels, tk, hr, hS4, hkb, htk⟩ := hc
 cases hr
 have b4 := hS4.ho
 have hk4 : ∀ k, k < n1 → H4 k = H3 k := fun k hk => hlo4 k om om om om
 have d1 : H4 n = some (.arr 0 1 [Zf fs]) := (hk4 _ om).trans c1
 have d2 : H4 (n + 1) = some (.arr 0 10 [Ze q]) := (hk4 _ om).trans c2
 have d3 : H4 (n + 2) = some (.arr 0 3 [.agg [.nilsl, .nilsl, .bool false]]) := (hk4 _ om).trans c3
 have e3 : (n = n4) = False := oz
 have e4 : (n + 1 = n4) = False := oz
 have d5 : H4 n1 = some (.arr 0 12 [Xq q k1 k2 k3 k4 kw kf vf]) := (hlo4 _ om om om om).trans b5
 try simp only [go_sem, seval, hszs, hags, hmos, hszq, hagq, hmoq, hszp, hagp, hmop, f1, f2, f3, b1, b2, b3, b4, b5, b6, d1, d2, d3, d5, e1, e2, e3, e4, Nat.add_assoc, List.length_map, Int.toNat_natCast, Option.getD_some, Option.getD_none, Xq, Jg, c1, c2]
 repeat refine peel ?_
 apply V; clear V K
 refine rc zs [6, 10, 13, 14, 15, 16, 17, 18, 19] func57 ((hgo _ _)) ?_
 refine ZU (fun H' n' => (∀ k, k < n4 → H' k = H4 k) ∧ H' n4 = some (.arr 0 3 [pgAV z.1]) ∧ H' (n4 + 1) = some (.arr 0 3 [pgAV z.1]) ∧ n' = n4 + 2) ⟨fun k hk => oh, oh, oh, by first | rfl | omega⟩ fun H5 n5 ⟨hlo5, e1, e2, hn5⟩ => ?_
 subst hn5
 replace d1 := (hlo5 n om).trans d1
 replace d2 := (hlo5 (n + 1) om).trans d2
 replace d3 := (hlo5 (n + 2) om).trans d3
 replace d5 := (hlo5 n1 om).trans d5
 have hL5 : LdS q k1 k2 k3 k4 kw kf vf H5 := hL3.on fun k hk => (hlo5 k (by have := hLk k hk; omega)).trans (hk4 k (by have := hLk k hk; omega))
 refine Zg zs [10, 14, 15, 16, 17, 18, 19, 20] fun K V => ?_
 try simp only [go_sem, seval, hszs, hags, hmos, hszq, hagq, hmoq, hszp, hagp, hmop, f1, f2, f3, b1, b2, b3, b4, b5, b6, d1, d2, d3, d5, e1, e2, e3, e4, Nat.add_assoc, List.length_map, Int.toNat_natCast, Option.getD_some, Option.getD_none, Xq, Jg]
 repeat (first | (refine And.intro ?_ ?_; · first | exact rfl) | refine peel ?_)
 refine cK func35 ((JK q hq k1 k2 k3 k4 kw kf vf H5 (n4 + 2) hL5 (fun k hk => by have := hLk k hk; omega))) ?_ ?_
 ·intro p H' n' hc; obtain ⟨_, _, hr⟩ := hc; cases hr
 intro rr H6 n6 hc
 obtain ⟨hn6, hlo6, hr⟩ := hc
 cases hr
 try simp only [go_sem, seval, hszs, hags, hmos, hszq, hagq, hmoq, hszp, hagp, hmop, f1, f2, f3, b1, b2, b3, b4, b5, b6, d1, d2, d3, d5, e1, e2, e3, e4, Nat.add_assoc, List.length_map, Int.toNat_natCast, Option.getD_some, Option.getD_none, Xq, Jg]
 repeat refine peel ?_
 apply V; clear V K
 have hS6 : SrcS rows err (n1 + 1) (n1 + 2) (n1 + 3) (n1 + 4) z.2.1 vw vt kb tels tk H6 n6 := hS4.on (fun k hk => by
   have hk9 : n1 ≤ k ∧ k < n4 := by rcases hk with rfl | rfl | rfl | hk; omega; omega; omega; exact ⟨by have := htk k hk; omega, hS4.told.lo k hk |>.2⟩
   have x1 := hLk k1 osi; have x2 := hLk k2 osi; have x3 := hLk k3 osi; have x4 := hLk k4 osi; have x5 := hLk kf osi
   exact (hlo6 k om om om om om om).trans (hlo5 k hk9.2)) om
 refine rk zs [10, 14, 15, 16, 17, 18, 19, 20, 21] fun K V => ?_
 refine cK func74 ((Q9 rows err hrw (n1 + 1) (n1 + 2) (n1 + 3) (n1 + 4) z.2.1 vw vt kb tels tk H6 n6 hS6 om)) ?_ ?_
 ·intro p H' n' hc; obtain ⟨hr, _⟩ := hc; cases hr
 intro rr H7 n7 hc
 obtain ⟨hr, hn7, hlo7⟩ := hc
 cases hr
 subst hn7
 have hkb7 : ∀ k, k < n1 + 4 ∨ n4 ≤ k → ∀ p ∈ kb, k ≠ p.1 := fun k hk p hp e => by have h1 := hS4.wk p hp; have h2 := htk _ h1; have h3 := hS4.told.lo _ h1; omega
 have x1 := hLk k1 osi; have x2 := hLk k2 osi; have x3 := hLk k3 osi; have x4 := hLk k4 osi; have x5 := hLk kf osi
 have hk7 : ∀ k, k < n1 + 4 ∨ n4 ≤ k → k < n4 + 2 → k ≠ k1 → k ≠ k2 → k ≠ k3 → k ≠ k4 → k ≠ kf → H7 k = H5 k := fun k a b c1 c2 c3 c4 c5 => (hlo7 k (hkb7 k a)).trans (hlo6 k b c1 c2 c3 c4 c5)
 replace e1 : H7 n4 = some (.arr 0 3 [pgAV z.1]) := (hk7 _ om om om om om om om).trans e1
 replace e2 : H7 (n4 + 1) = some (.arr 0 3 [pgAV z.1]) := (hk7 _ om om om om om om om).trans e2
 replace d3 : H7 (n + 2) = some (.arr 0 3 [.agg [.nilsl, .nilsl, .bool false]]) := (hk7 _ om om om om om om om).trans d3
 have b6 : H7 (n1 + 1) = some (.arr 0 5 [XR rows err z.2.1 (n1 + 2) vw kb.length (n1 + 3) vt tels.length]) := (hlo7 _ (hkb7 _ om)).trans hS6.ho
 unfold XR at b6
 have hlow7 : ∀ k, k < n → H7 k = H k := fun k hk => (hk7 k om om om om om om om).trans ((hlo5 k om).trans ((hk4 k om).trans (c0 k hk)))
 refine nz ?_
 apply V; clear V K
 refine dx zs [10, 11, 12] [.q, .m, .c, .m, .m, .m, .q, .m, .m, .c, .m, .q, .q, .m, .m, .q, .q, .q, .m, .q, .q, .m, .q, .q, .c, .q, .w [25], .q, .q] [0, 1, 2, 3, 4, 5, 6, 7, 8, 9, 10, 11, 12, 13, 14, 15, 16, 17, 18, 19, 20, 21, 22, 23, 24, 25, 26, 27, 28] [0, 1, 2, 3, 4, 5, 6, 7, 8, 9, 10, 11, 12, 13, 14, 15, 16, 17, 18, 19, 20, 21, 22, 23, 24, 25, 26, 27, 28] fun K V => ?_
 refine cq func20 (fun _ n => (Vk _ _ _)) ?_
 refine cq func20 (fun _ n => (Vk _ _ _)) ?_
 refine cq func21 (fun _ n => (hsp _ _)) ?_
 apply V; clear V K
 refine ar ?_
 refine ⟨_, rfl, fun k hk => ohx (hlow7 k hk), Frz.eq osi ⟨kl_pg _ _, trivial, trivial, trivial⟩⟩
end Go.Proofs.YtkmkbndcekklmaaGreatDoor
namespace Go.Sx
open Go
end Go.Sx
set_option maxRecDepth 10000
namespace Go.Proofs.YtkmkbndcekklmaaGreatDoor
open Go Go.Sx Go.Rt Go.Proofs Tryz
theorem _root_.Go.Sx.Zl.adoptO {P : Program} {f : FuncId} {args : List AV} {H : Heap} {n : Nat} {K : ARes → Heap → Nat → Prop} (k esz : Nat) {ver e : Nat} {els els' : List AV} (hk : H k = some (.arr ver e els)) (ha : AdpL n els els')
   (h : Zl P f args ((H.put n (some (.arr 0 esz []))).put k (some (.arr ver e els'))) (n + 1) K) : Zl P f args H n K := fun c w vs hs hr => by
 have hst := Px hs esz
 have hkn : k ≠ n := fun e => by subst e; rw [(hs.fresh _ (Nat.le_refl _)).1] at hk; simp at hk
 have hst2 := Step.retell (els' := els') hst.sim (k := k) (by rw [NT _ _ hkn]; exact hk) (fun ds hd => ha.relF N7 hd) ha.len.symm ha.szAll
 exact (h _ w vs (hst.trans hst2).sim (RelT.mono (hst.trans hst2).le _ _ hr)).mono fun e w' ⟨res, c', H', n', V, hst3, hm⟩ => ⟨res, c', H', n', V, (hst.trans hst2).trans hst3, hm⟩
def srcN (rows : List RowE) (err : Int) : AObj := .arr 0 5 [.agg [.sl 2 (rows.map Zm), .int .i64 err, .int .i64 0, .nilsl, .nilsl]]
def RunO (ks : Nat) (z : PgE × Nat × Int) (H : Heap) (n : Nat) (res : ARes) (H' : Heap) (n' : Nat) : Prop :=
 n ≤ n' ∧ (∀ k, k < n → k ≠ ks → H' k = H k) ∧ ∃ a pk, res = .val (.tup [a, .int .i64 z.2.2]) ∧ Own H' a (pgAV z.1) pk ∧ pk.Nodup ∧ (∀ k ∈ pk, n ≤ k ∧ k < n')
def RunP (ks : Nat) (z : PgE × Nat × Int) (H : Heap) (n : Nat) (res : ARes) (H' : Heap) (n' : Nat) : Prop :=
 n ≤ n' ∧ (∀ k, k < n → k ≠ ks → H' k = H k) ∧ res = .val (.tup [pgAV z.1, .int .i64 z.2.2])
theorem RunO.frz {ks : Nat} {z : PgE × Nat × Int} {H : Heap} {n : Nat} {P : Program} {f : FuncId} {args : List AV} (h : Zl P f args H n (RunO ks z H n)) : Zl P f args H n (RunP ks z H n) :=
 h.frzS fun res H1 n1 ⟨h1, h2, a, pk, hr, ho, hd, hp⟩ => by
   have e := Pt (j := .i64) (y := z.2.2) ho
   exact ⟨_, _, fun k => k ∈ pk, inferInstance, hr, FzO.own e (fun k hk => hk), h1, fun k a b => (PE (S := fun k => k ∈ pk) (fun hm => by have := hp k hm; omega)).trans (h2 k a b), rfl⟩
theorem o_query_Run (fs : List Fml) (hfs : fs.length ≤ 1048576) (q : QryE) (hqf : q.fine) (clock : Int) (rows : List RowE) (err : Int) (hrw : Xn rows) (ks : Nat) {H : Heap} {n : Nat} (hG : GOK 1 1 H n) (hs : H ks = some (srcN rows err)) :
   Zl prog 18 [Zf fs, Ze q, .int .i64 clock, .iface 52 (.loc ks 0 0 0 [])] H n (RunO ks (runE fs q clock (some (rows, err))) H n) :=
 Zl.below hs fun hks => by
   refine Zl.adoptO ks 1 (ver := 0) (e := 5) (els := [.agg [.sl 2 (rows.map Zm), .int .i64 err, .int .i64 0, .nilsl, .nilsl]]) (els' := [.agg [.sl 2 (rows.map Zm), .int .i64 err, .int .i64 0, .osl n 0 0 0, .nilsl]]) hs ⟨Adp.agg ⟨.refl _ _, .refl _ _, .refl _ _, Adp.nilsl _, .refl _ _, trivial⟩, trivial⟩ ?_
   refine Zl.adoptO ks 2 (ver := 0) (e := 5) (els := [.agg [.sl 2 (rows.map Zm), .int .i64 err, .int .i64 0, .osl n 0 0 0, .nilsl]]) (els' := [XR rows err 0 n 0 0 (n + 1) 0 0]) (NU _ _ _) ⟨Adp.agg ⟨.refl _ _, .refl _ _, .refl _ _, .refl _ _, Adp.nilsl _, trivial⟩, trivial⟩ ?_
   obtain ⟨H2, hH2⟩ : ∃ x, x = (((((H.put n (some (.arr 0 1 []))).put ks (some (.arr 0 5 [.agg [.sl 2 (rows.map Zm), .int .i64 err, .int .i64 0, .osl n 0 0 0, .nilsl]]))).put (n + 1) (some (.arr 0 2 []))).put ks (some (.arr 0 5 [XR rows err 0 n 0 0 (n + 1) 0 0]))) : Heap) := ⟨_, rfl⟩
   rw [← hH2]
   have g1 : H2 ks = some (.arr 0 5 [XR rows err 0 n 0 0 (n + 1) 0 0]) := by rw [hH2]; (try simp only [NV]); (repeat first | rw [if_pos rfl] | rw [if_pos trivial] | rw [if_neg om])
   have g2 : H2 n = some (.arr 0 1 []) := by rw [hH2]; (try simp only [NV]); (repeat first | rw [if_pos rfl] | rw [if_pos trivial] | rw [if_neg om])
   have g3 : H2 (n + 1) = some (.arr 0 2 []) := by rw [hH2]; (try simp only [NV]); (repeat first | rw [if_pos rfl] | rw [if_pos trivial] | rw [if_neg om])
   have g4 : ∀ k, k < n → k ≠ ks → H2 k = H k := fun k a b => by rw [hH2]; (try simp only [NV]); (repeat first | rw [if_pos rfl] | rw [if_pos trivial] | rw [if_neg om])
   have hne : ∀ g o, H g = some (.glob o VI) → g ≠ ks := fun g o hg e => by rw [e, hs] at hg; cases hg
   have hne2 : ∀ g o, H g = some (.glob o Jz) → g ≠ ks := fun g o hg e => by rw [e, hs] at hg; cases hg
   have hG2 : GOK 1 1 H2 (n + 1 + 1) := hG.at2 (by
     by_cases hn : (1 : Nat) = 1
     ·rw [hn]; exact g4 _ hG.get (hne _ _ hG.table)
     ·exact g4 _ hG.gek (hne2 _ _ (hG.kindsC hn))) (g4 _ hG.get (hne _ _ hG.table)) om
   have hS : SrcS rows err ks n (n + 1) (n + 2) 0 0 0 [] [] [] H2 (n + 1 + 1) := ⟨g1, g2, fun p hp => (by cases hp), fun p hp => (by cases hp), osi, g3, Pile.nil _ _ _, om, fun p hp => (by cases hp)⟩
   refine (Lr fs hfs q hqf clock rows err hrw ks n (n + 1) (n + 2) 0 0 hG2 (QL.ro q H2) (fun j hj => by cases hj) hS).mono ?_
   rintro res H3 n3 ⟨h1, h2, a, pk, vw, vt, kb, tels, tk, hr, ho, hd, hp, _⟩
   exact ⟨om, fun k a b => (h2 k om b om om).trans (g4 k a b), a, pk, hr, ho, hd, fun k hk => by have := hp k hk; omega⟩
theorem WX (fs : List Fml) (hfs : fs.length ≤ 1048576) (q : QryE) (hqf : q.fine) (clock : Int) (rows : List RowE) (err : Int) (hrw : Xn rows) (ks : Nat) {H : Heap} {n : Nat} (hG : GOK 1 1 H n) (hs : H ks = some (srcN rows err)) :
 Zl prog 18 [Zf fs, Ze q, .int .i64 clock, .iface 52 (.loc ks 0 0 0 [])] H n (RunP ks (runE fs q clock (some (rows, err))) H n) := RunO.frz (o_query_Run fs hfs q hqf clock rows err hrw ks hG hs)
def twoF : List Fml := [⟨[97], 3, 0⟩, ⟨[98], 3, 0⟩]
def WM (i : Nat) : RowE := ⟨[114, UInt8.ofNat (49 + i)], [⟨0, [120], 5, [49]⟩, ⟨1, [121], 4, [50]⟩]⟩
def Yq : List RowE := [WM 0, WM 1, WM 2]
open N0 in
theorem QC (H : Heap) (n : Nat) : Ret prog 14 [] H n (Zf twoF) H n := by
 refine Ret.fin ?_
 refine fw func14 ntmps14 results14 ?_
 refine kcu ?_
 refine kcu ?_
 refine ar ?_
 exact ⟨_, rfl, fun k hk => oh, .kl (kl_sch twoF _)⟩
theorem plain_at {i : Nat} (h : i < 3) : Yq.getD i default = WM i := by rcases i with _ | _ | _ | i <;> first | rfl | omega
theorem plain_byte {i : Nat} (h : i < 3) : Zd (UInt8.ofNat (49 + i)) = .int .u8 ((49 + i : Nat) : Int) := by rcases i with _ | _ | _ | i <;> first | rfl | omega
theorem NE60.eqs {P Q : Prop} (g : Imp P Q := by (try simp only [go_sem, seval, e1, e2, e3, e4, g1, g2, g3, g4, g5, g6, hst, Nat.add_assoc]); exact NW) : Imp P Q := g
theorem NE60.inz {P Q : Prop} (g : Imp P Q := by refine Imp.up eqs ?_; (repeat (first | (refine Imp.nd ?_ ?_; · first | exact ⟨rfl, fun x hx => by simp only [List.mem_cons, List.not_mem_nil, or_false] at hx; rcases hx with rfl | rfl <;> exact ⟨rfl, rfl⟩⟩ | exact ⟨1, rfl, rfl⟩) | refine Imp.pl ?_)); exact NW) : Imp P Q := g
set_option maxHeartbeats 1600000 in
open NE60 in
theorem Uw (H : Heap) (n : Nat) : Ret prog 17 [] H n (.sl 2 (Yq.map Zm)) H n := by
 have e1 : n = n := rfl
 have e2 : n = n := rfl
 have e3 : n = n := rfl
 have e4 : n = n := rfl
 have g6 : n = n := rfl
 have hst : n = n := rfl
 have g1 : ∀ k : Nat, (k = k + 1) = False := fun k => by simp
 have g2 : ∀ k : Nat, (k = k + 2) = False := fun k => by simp
 have g3 : ∀ k : Nat, (k = k + 3) = False := fun k => by simp
 have g4 : ∀ k : Nat, (k = k + 4) = False := fun k => by simp
 have g5 : ∀ k : Nat, (k = k + 5) = False := fun k => by simp
 refine Ret.fin ?_
 refine fw func17 ntmps17 results17 ?_
 refine rg zs [] ?_
 refine rg zs [1] ?_
 refine Zb fun K1 hK1 => ?_
 refine Yw 1 2 rfl ?_
 refine rg zs [1, 2] ?_
 refine Zv ?_
 refine Zp (fun T' H' n' => ∃ i : Nat, i ≤ 3 ∧ T' = tl [(1, .osl n i 0 i), (2, .int .i64 i)] ∧ H' n = some (.arr i 2 ((Yq.take i).map Zm)) ∧ (∀ k, k < n → H' k = H k) ∧ n' = n + 1 + 6 * i) (fun T' _ _ => 3 - iv (T' 2)) ?_ ?_
 ·exact ⟨0, by omega, rfl, by (try simp only [NV]); (repeat first | rw [if_pos rfl] | rw [if_pos trivial] | rw [if_neg (by omega)]); rfl, fun k hk => by (try simp only [NV]); (repeat first | rw [if_pos rfl] | rw [if_pos trivial] | rw [if_neg (by omega)]), rfl⟩
 rintro T1 H1 n1 ⟨i, hi, rfl, b1, hlow, hn1⟩
 refine Zb fun K2 hK2 => ?_
 refine rg zs [1, 2, 5] ?_
 refine Za ?_ ?_ <;> intro hb
 ·have hci : i < 3 := by have := of_decide_eq_true hb; omega
  have e1 : IntKind.i64.wrap (49 + (i : Int)) = ((49 + i : Nat) : Int) := by rw [w64 (by omega) (by omega)]; omega
  have e2 : IntKind.u8.wrap ((49 + i : Nat) : Int) = ((49 + i : Nat) : Int) := by rcases i with _ | _ | _ | i <;> first | rfl | omega
  have e3 : IntKind.i64.wrap ((i : Int) + 1) = ((i + 1 : Nat) : Int) := w1 (by omega)
  have e4 : (n = n1) = False := by simp; omega
  refine ak ?_
  apply hK2
  refine bk fun K3 hK3 => ?_
  refine rg zs [1, 2, 3] ?_
  refine rg zo [1, 2, 3] ?_
  refine NK (n1 + 5) n1 (ver := 0) (e := 4) (els := (WM i).cells.map Zk) (vj := 0) (ej := 2) (lj := [.agg [.sl 1 [.int .u8 114, .int .u8 ((49 + i : Nat) : Int)], .osl (n1 + 5) 0 0 2]]) (lj' := [Zm (WM i)]) (by (try simp only [NV]); (repeat first | rw [if_pos rfl] | rw [if_pos trivial] | rw [if_neg (by omega)]); rfl) (by (try simp only [NV]); (repeat first | rw [if_pos rfl] | rw [if_pos trivial] | rw [if_neg (by omega)])) (by omega) ⟨FzV.agg ⟨?_, FzV.osl (off := 0) (len := 2) (by simp [WM]), trivial⟩, trivial⟩ ?_
  ·rw [← plain_byte hci]; exact .refl _
  have g6 : ∀ j : Nat, (n = n1 + j) = False := fun j => by simp; omega
  have hst : strip true (Zm (WM i)) = Zm (WM i) := rfl
  have hl : (List.map Zm (List.take i Yq)).length = i := by rw [List.length_map, List.length_take, show Yq.length = 3 from rfl]; omega
  have hrs := Vf (WM i)
  have hrm : (Zm (WM i)).memOK = true := rfl
  have hra : (Zm (WM i)).isAgg = true := rfl
  refine ZI zs [1, 2] fun K V => ?_
  try simp only [go_sem, seval, e1, e2, e3, e4, g1, g2, g3, g4, g5, g6, hst, Nat.add_assoc, hrs, hrm, hra, b1]
  repeat (first | (refine And.intro ?_ ?_; · first | exact ⟨by omega, .inr trivial, by omega, by omega⟩ | exact ⟨rfl, fun x hx => by rw [List.mem_singleton.1 hx]; exact ⟨hrs, hrm⟩⟩) | refine peel ?_)
  apply V; clear V K
  refine ns ?_
  apply hK3
  refine rg1 zs [1, 2] ?_
  refine ⟨⟨i + 1, by omega, rfl, ?_, fun k hk => by (try simp only [NV]); (repeat first | rw [if_pos rfl] | rw [if_pos trivial] | rw [if_neg (by omega)]); exact hlow k hk, by omega⟩, by omega⟩
  rw [VA Yq (show i < Yq.length from hci), plain_at hci]
  (try simp only [NV]); (repeat first | rw [if_pos rfl] | rw [if_pos trivial] | rw [if_neg (by omega)])
  rw [List.take_of_length_le (by omega), List.map_append]; rfl
 have hci : i = 3 := by have := of_decide_eq_false hb; omega
 subst hci
 refine ax ?_
 apply hK1
 refine rg zs [0] ?_
 refine ar ?_
 exact ⟨_, rfl, hlow,   .osl b1 (by omega) (by simp [Yq]) (by rw [List.take_of_length_le (show Yq.length ≤ 3 from Nat.le_refl 3), List.drop_zero, List.take_of_length_le (show (Yq.map Zm).length ≤ 3 from Nat.le_refl 3)]; exact XH _ (XF Zm (fun x => kl_rowAV x n) _))⟩
theorem NE61.eqs {P Q : Prop} (g : Imp P Q := by (try simp only [go_sem, seval, List.length_map]); exact NW) : Imp P Q := g
open NE61 NY in
theorem Wy (b : List UInt8) (hb : b.length ≤ 1099511627776) (H : Heap) (n : Nat) : Ret prog 23 [bys b] H n (bys b) H n := by
 have h9 := Uk b hb 0 b.length (Nat.zero_le _) (Nat.le_refl _) H n
 exact kbY
theorem NE62.eqs {P Q : Prop} (g : Imp P Q := by (try simp only [go_sem, seval, hsz, hag, hmo, Ze, Zt, bys, List.length_map, Int.toNat_natCast]); exact NW) : Imp P Q := g
theorem NE62.sd {P : Prop} (g : P := by first | exact ⟨.inr trivial, om, om⟩ | fail) : P := g
set_option maxHeartbeats 1600000 in
open NE62 NZ in
theorem NI (q : QryE) (hq : q.fine) (H : Heap) (n : Nat) : Ret prog 32 [Ze q] H n (Ze q) H n := by
 have hsz : (Ze q).sz = 10 := ZH q
 have hag : (Ze q).isAgg = true := rfl
 have hmo : (Ze q).memOK = true := rfl
 have h1 := hq.frm
 have h2 := hq.to
 have h3 := hq.pre
 have h4 := hq.token
 have h5 := hq.fams
 refine Ret.fin ?_
 refine fw func32 ntmps32 results32 ?_
 refine rg zs [1, 2] ?_
 refine rk zs [1, 2] fun K V => ?_
 refine ck func23 ((Wy q.frm om _ _)) ?_
 refine kas ?_
 refine rk zs [1, 2] fun K V => ?_
 refine ck func23 ((Wy q.to om _ _)) ?_
 refine kas ?_
 refine rk zs [1, 2] fun K V => ?_
 refine ck func23 ((Wy q.pre om _ _)) ?_
 refine kas ?_
 refine rk zs [1, 2] fun K V => ?_
 refine ck func23 ((Wy q.token om _ _)) ?_
 refine kas ?_
 refine rg zs [1, 2, 3] ?_
 refine rg zs [1, 2] ?_
 refine kal ?_
 exact ⟨_, rfl, fun k hk => oh, .kl (kl_qry q _)⟩
def q0 : QryE := { frm := [], to := [], fams := [], pre := [], time := 0, n := 1, rows := 2, rev := false, whr := [118, 97, 108, 117, 101, 32, 61, 32, 34, 49, 34], token := [] }
def pg0 : PgE := (runE twoF q0 9 (some (Yq, 0))).1
def q1 : QryE := { q0 with token := pg0.token }
def pg1 : PgE := (runE twoF q1 99 (some (Yq.drop 2, 0))).1
theorem st1 : (runE twoF q0 9 (some (Yq, 0))).2.2 = 0 ∧ pg0.rows.length = 2 ∧ (pg0.rows.getD 0 default).cells.length = 1 ∧ pg0.done = false ∧ pg0.token.length ≠ 0 ∧ pg0.token.length ≤ 1000 := by decide +kernel
theorem st2 : ZV q1 = ([114, 50, 0], true, 0) := by decide +kernel
theorem st3 : (runE twoF q1 99 (some (Yq.drop 2, 0))).2.2 = 0 ∧ pg1.rows.length = 1 ∧ pg1.done = true ∧ pg1.token = [] := by decide +kernel
theorem q0_fine : q0.fine := ⟨odc, odc, odc, odc, odc, odc⟩
theorem q1_fine : q1.fine := ⟨odc, odc, odc, odc, odc, by have := st1.2.2.2.2.2; show pg0.token.length ≤ _; omega⟩
theorem JU : Xn Yq := ⟨odc, fun x hx => by simp only [Yq, List.mem_cons, List.not_mem_nil, or_false] at hx; rcases hx with rfl | rfl | rfl <;> refine ⟨odc, odc, fun c hc => ?_⟩ <;> simp only [WM, List.mem_cons, List.not_mem_nil, or_false] at hc <;> rcases hc with rfl | rfl <;> decide⟩
theorem Xn.drop {l : List RowE} (h : Xn l) (k : Nat) : Xn (l.drop k) := ⟨by rw [List.length_drop]; have := h.1; omega, fun x hx => h.2 x (List.mem_of_mem_drop hx)⟩
theorem cq_two (H : Heap) : Jq prog (.fn (.func 14) [] []) [] H (Zf twoF) := fun m => Zq func14 rfl rfl rfl (QC H m) ⟨rfl, rfl, rfl⟩
theorem cq_plain (H : Heap) : Jq prog (.fn (.func 17) [] []) [] H (.sl 2 (Yq.map Zm)) := fun m => Zq func17 rfl rfl rfl (Uw H m) ⟨rfl, rfl, rfl⟩
theorem ret_start (q : QryE) (hq : q.fine) {r : List UInt8 × Bool × Int} (hr : ZV q = r) {H : Heap} {n : Nat} (hG : GOK 1 1 H n) : Ret prog 24 [Ze q] H n (.tup [bys r.1, .bool r.2.1, .int .i64 r.2.2]) H n := by
 have := Jh hq hG (QL.ro q H)
 unfold Xa at this
 rw [hr] at this
 exact this
theorem NE70.eqs {P Q : Prop} (g : Imp P Q := by (try simp only [go_sem, seval, hszq, hagq, hmoq, hszp, hagp, hmop, b1, b2, g1, g2, g3, s2, s3, s4, u2, u3, u4, hn0, pgAV, Zm, bys, Nat.add_assoc, List.length_map, Int.toNat_natCast]); exact NW) : Imp P Q := g
theorem NE70.sd {P : Prop} (g : P := by first | ((repeat' apply And.intro) <;> first | (intro d hd; cases hd; exact cq_two _) | (intro d hd; cases hd; exact cq_plain _) | (intro g; trivial) | (intro g; rfl)) | exact ⟨1, rfl, rfl⟩ | fail) : P := g
set_option maxRecDepth 100000 in
set_option maxHeartbeats 3200000 in
open NE70 NZ in
theorem Ma (H : Heap) (n : Nat) (hG : GOK 1 1 H n) : Ret prog 31 [] H n (.bool true) H n := by
 have hszq : ∀ q, (Ze q).sz = 10 := ZH
 have hagq : ∀ q, (Ze q).isAgg = true := fun _ => rfl
 have hmoq : ∀ q, (Ze q).memOK = true := fun _ => rfl
 have hszp : ∀ p, (pgAV p).sz = 3 := fun _ => rfl
 have hagp : ∀ p, (pgAV p).isAgg = true := fun _ => rfl
 have hmop : ∀ p, (pgAV p).memOK = true := fun _ => rfl
 have hg1 := hG.gek
 have hg2 := hG.get
 obtain ⟨s1, s2, s3, s4, s5, s6⟩ := st1
 obtain ⟨u1, u2, u3, u4⟩ := st3
 have hn0 : nth (pg0.rows.map Zm) 0 = Zm (pg0.rows.getD 0 default) := Zr Zm _ 0 om
 have b1 := hG
 have b2 := hG
 have g1 : (n = n + 1) = False := osi
 have g2 : (n = n + 2) = False := osi
 have g3 := hG
 refine Ret.fin ?_
 refine fw func31 ntmps31 results31 ?_
 refine rg zs [] ?_
 refine rg zs [1] ?_
 refine NJ n (els' := [Ze q0]) (NU _ _ _) ⟨Wk.agg ⟨Wk.nilsl 1, Wk.nilsl 1, Wk.nilsl 1, Wk.nilsl 1, .refl _, .refl _, .refl _, .refl _, .refl _, Wk.nilsl 1, trivial⟩, trivial⟩ ?_
 refine awp_seq_j (fun T' H' n' => ∃ kp : Nat, T' = tl [(1, .loc n 0 0 0 []), (2, .loc kp 0 0 0 []), (3, .int .i64 0)] ∧ H' n = some (.arr 0 10 [Ze q0]) ∧ H' kp = some (.arr 0 3 [pgAV pg0]) ∧ n < kp ∧ kp < n' ∧ ∀ k, k < n → H' k = H k) ?_ ?_
 ·refine awp_tree1 rfl zs [1, 2, 3] 10 [.c, .q, .c, .q, .w [1], .q, .w [], .m, .q, .q, .w [], .w [9], .q] [0, 1, 2, 3, 4, 5, 6, 7, 8, 9] [11, 12] (.w [0, 1, 2, 3, 5, 8, 9]) [(4, .w [0, 1, 2, 3]), (6, .w [0, 1, 2, 3, 5])] [0, 1, 2, 3, 4, 5, 6, 7, 8, 9, 0, 10, 11] odc (by kernel_rfl) (fun _ _ _ _ _ h => h) fun K V => ?_
  refine nz ?_
  refine cq func14 (fun _ n => (QC _ _)) ?_
  refine cq func17 (fun _ n => (Uw _ _)) ?_
  refine And.intro ?_ ?_
  ·refine nz ?_
   refine Zu (args' := [Zf twoF, Ze q0, .int .i64 9, .iface 52 (.loc _ 0 0 0 [])]) func18 rfl rfl rfl ((WX twoF odc q0 q0_fine 9 Yq 0 JU _ ?_ ?_)) ?_ ?_
   ·exact hG.on (fun k hk => oh) om
   ·refine ohx ?_; rfl
   rotate_left
   ·exact kb4
   intro rr H1 n1 hc
   obtain ⟨hn1, hlo1, hr⟩ := hc
   rw [s1, show (runE twoF q0 9 (some (Yq, 0))).1 = pg0 from rfl] at hr
   cases hr
   have g3 : (n = n1) = False := oz
   have b2 : H1 n = some (.arr 0 10 [Ze q0]) := (hlo1 _ om om).trans oh
   have b1 : H1 (n + 1) = some (.arr 0 3 [.agg [.nilsl, .nilsl, .bool false]]) := (hlo1 _ om om).trans oh
   exact kak
  refine nz ?_
  refine And.intro ?_ ?_
  ·refine nz ?_
   refine Zu (args' := [Zf twoF, Ze q0, .int .i64 9, .iface 52 (.loc _ 0 0 0 [])]) func18 rfl rfl rfl ((WX twoF odc q0 q0_fine 9 Yq 0 JU _ ?_ ?_)) ?_ ?_
   ·exact hG.on (fun k hk => oh) om
   ·refine ohx ?_; rfl
   rotate_left
   ·exact kb4
   intro rr H1 n1 hc
   obtain ⟨hn1, hlo1, hr⟩ := hc
   rw [s1, show (runE twoF q0 9 (some (Yq, 0))).1 = pg0 from rfl] at hr
   cases hr
   have g3 : (n = n1) = False := oz
   have b2 : H1 n = some (.arr 0 10 [Ze q0]) := (hlo1 _ om om).trans oh
   have b1 : H1 (n + 2) = some (.arr 0 3 [.agg [.nilsl, .nilsl, .bool false]]) := (hlo1 _ om om).trans oh
   exact kak
  refine nz ?_
  refine Zu (args' := [Zf twoF, Ze q0, .int .i64 9, .iface 52 (.loc _ 0 0 0 [])]) func18 rfl rfl rfl ((WX twoF odc q0 q0_fine 9 Yq 0 JU _ ?_ ?_)) ?_ ?_
  ·exact hG.on (fun k hk => oh) om
  ·refine ohx ?_; rfl
  rotate_left
  ·exact kb4
  intro rr H1 n1 hc
  obtain ⟨hn1, hlo1, hr⟩ := hc
  rw [s1, show (runE twoF q0 9 (some (Yq, 0))).1 = pg0 from rfl] at hr
  cases hr
  have g3 : (n = n1) = False := oz
  have b2 : H1 n = some (.arr 0 10 [Ze q0]) := (hlo1 _ om om).trans oh
  exact kak
 rintro T9 H1 n1 ⟨kp, rfl, b2, b1, hkp, hkn, hlow1⟩
 refine Zb fun K1 hK1 => ?_
 refine rc zs [1, 2, 45] func20 ((Vk _ _ _)) ?_
 refine Za ?_ ?_ <;> intro hb
 ·exact absurd hb (by simp [s5])
 refine kay ?_
 refine rg zs [1, 2] ?_
 refine rk zs [1, 2, 4, 5, 6] fun K V => ?_
 refine ck func24 ((ret_start q1 q1_fine st2 (hG.on (fun k hk => ohx (hlow1 k hk)) om))) ?_
 refine kas ?_
 refine Zb fun K2 hK2 => ?_
 refine Zg zs [1, 2, 67] fun K V => ?_
 refine kaY ?_
 repeat refine peel ?_
 refine Zq func20 rfl rfl rfl ((Vk _ _ _)) ?_
 refine kaY ?_
 repeat (first | (refine And.intro ?_ ?_; · first | exact ⟨rfl, fun x hx => by simp only [List.mem_cons, List.not_mem_nil, or_false] at hx; rcases hx with rfl | rfl | rfl <;> exact ⟨rfl, rfl⟩⟩) | refine peel ?_)
 refine YE func26 rfl rfl rfl (fun _ => (XJ [114, 50, 0] [114, 50, 0] _ _)) ?_
 refine kaY ?_
 refine kad ?_
 refine Za ?_ ?_ <;> intro hb
 ·exact kaJ
 refine kaQ ?_
 refine ZU (fun H' n' => H' n = some (.arr 0 10 [Ze q1]) ∧ H' kp = some (.arr 0 3 [pgAV pg0]) ∧ (∀ k, k < n → H' k = H k) ∧ n' = n1) ⟨ohr, ohx b1, fun k hk => ohx (hlow1 k hk), rfl⟩ fun H2 n2 ⟨b2, b1, hlow2, hn2⟩ => ?_
 subst hn2
 have f9 : (n = n2) = False := oz
 have hpl : Yq.length = 3 := rfl
 have hS2 := Xn.drop JU 2
 refine X3 rfl zs [2, 3] [.c, .q, .c, .q, .q, .w [1], .q, .w [], .m, .q, .q, .w [10], .q] [0, 1, 2, 3, 4, 5, 6, 7, 8, 9, 10, 11, 12] [0, 1, 2, 3, 4, 5, 6, 7, 8, 9, 10, 11, 12] (by kernel_rfl) (fun _ _ _ _ _ h => h) fun K V => ?_
 refine kao ?_
 repeat refine peel ?_
 refine Yr func14 rfl rfl rfl (fun _ n => (QC _ _)) ?_
 refine kao ?_
 repeat refine peel ?_
 refine Yr func17 rfl rfl rfl (fun _ n => (Uw _ _)) ?_
 refine kao ?_
 repeat (first | (refine And.intro ?_ ?_; · first | exact ⟨1, rfl, rfl⟩) | refine peel ?_)
 refine cK func18 ((WX (H := H2.put n2 (some (srcN (Yq.drop 2) 0))) (n := n2 + 1) twoF odc q1 q1_fine 99 (Yq.drop 2) 0 hS2 n2 (hG.on (fun k hk => ohx (hlow2 k hk)) om) oh)) ?_ ?_
 ·exact kb4
 intro rr H3 n3 hc
 obtain ⟨hn3, hlo3, hr⟩ := hc
 rw [u1, show (runE twoF q1 99 (some (Yq.drop 2, 0))).1 = pg1 from rfl] at hr
 cases hr
 have b1 : H3 kp = some (.arr 0 3 [pgAV pg0]) := (hlo3 _ om om).trans (ohx b1)
 have hlow3 : ∀ k, k < n → H3 k = H k := fun k hk => (hlo3 k om om).trans (ohx (hlow2 k hk))
 refine kao ?_
 refine kad ?_
 refine rc zs [0] func20 ((Vk _ _ _)) ?_
 refine ar ?_
 refine ⟨_, rfl, fun k hk => ohx (hlow3 k hk), Frz.eq osi trivial⟩
theorem Kt (fs : List Fml) (hfs : fs.length ≤ 1048576) (q : QryE) (hq : q.fine) (clock : Int) (rows : List RowE) (hrw : Xn rows) (err : Int) (H : Heap) (n : Nat) (ha : (1 : Nat) ≠ 1 → H 1 = some (.glob 5 Jz)) (hb : H 1 = some (.glob 1 VI)) :
   Ret prog 41 [Zf fs, Ze q, .int .i64 clock, .sl 2 (rows.map Zm), .int .i64 err] H n (.tup [pgAV (runE fs q clock (some (rows, err))).1, .int .i64 (runE fs q clock (some (rows, err))).2.2, .bool true]) H n :=
 Ret.below hb fun g2 => by
   by_cases hne : (1 : Nat) = 1
   ·exact LJ fs hfs q hq clock rows hrw err H n ⟨ha, hb, om, g2⟩
   ·exact Ret.below (ha hne) fun g1 => LJ fs hfs q hq clock rows hrw err H n ⟨ha, hb, g1, g2⟩
theorem cq_ran (fs : List Fml) (hfs : fs.length ≤ 1048576) (q : QryE) (hq : q.fine) (clock : Int) (rows : List RowE) (hrw : Xn rows) (err : Int) (H : Heap) (ha : (1 : Nat) ≠ 1 → H 1 = some (.glob 5 Jz)) (hb : H 1 = some (.glob 1 VI)) : Jq prog (.fn (.func 41) [] []) [Zf fs, Ze q, .int .i64 clock, .sl 2 (rows.map Zm), .int .i64 err] H (.tup [pgAV (runE fs q clock (some (rows, err))).1, .int .i64 (runE fs q clock (some (rows, err))).2.2, .bool true]) := fun m => Zq func41 rfl rfl rfl (Kt fs hfs q hq clock rows hrw err H m ha hb) ⟨rfl, rfl, rfl⟩
theorem frameB_len2 (b : List UInt8) : (X5 b).length ≤ b.length + 100 := by
 unfold X5; simp [Y4, lowB]
theorem uintB64 (n : Int) : (Zh (u64 n)).length ≤ 10 := Zo (Yc n)
theorem tokB_len2 (q : QryE) (time : Int) (row : List UInt8) (h : row.length ≤ 256) : (tokB q time row).length ≤ 1000 := by
 unfold tokB
 have h1 := frameB_len2 (Zh (u64 time) ++ Zn row ++ Zh (u64 (sumF [XL q])))
 have h2 := uintB64 time
 have h3 := uintB64 (sumF [XL q])
 have h4 := Zo (v := row.length) om
 have h5 : (Zn row).length = (Zh row.length).length + row.length := by simp [Zn]
 simp only [List.length_append] at h1
 omega
theorem Jr {nf : Nat} {q : QryE} {t : Option Tst} {tk : List UInt8 → List UInt8} {start : List UInt8} {has : Bool} {err : Int} (htk : ∀ r : List UInt8, r.length ≤ 256 → (tk r).length ≤ 1000) : ∀ (l : List RowE) (m : Nat) (last : Option (List UInt8)) (acc : List RowE), (runG nf q t tk start has err m last acc l).1.token.length ≤ 1000
 | [], m, last, acc => by unfold runG; split <;> simp [pgZ]
 | y :: l, m, last, acc => by
   unfold runG
   split
   ·simp [pgZ]
   rename_i hf
   split
   ·simp [pgZ]
   split
   ·simp
   split
   ·exact Jr htk l _ _ _
   split
   ·refine htk _ ?_
    have hf : Ym q y.row last start has = true := by simpa using hf
    unfold Ym at hf
    by_cases h9 : y.row.length = 0 ∨ 256 < y.row.length
    ·rw [if_pos h9] at hf; cases hf
    ·omega
   ·exact Jr htk l _ _ _
theorem runE_token (fs : List Fml) (q : QryE) (clock : Int) (s : Option (List RowE × Int)) : (runE fs q clock s).1.token.length ≤ 1000 := by
 unfold runE
 split
 ·simp [pgZ]
 split
 ·simp [pgZ]
 split
 ·simp [pgZ]
 ·exact Jr (fun r h => tokB_len2 q _ r h) _ _ _ _
def Vn (l : List RowE) : AV := .sl 2 (l.map Zm)
theorem NE90.eqs {P Q : Prop} (g : Imp P Q := by (try simp only [go_sem, seval, hszs, hags, hmos, hszq, hagq, hmoq, hszp, hagp, hmop, f1, f2, f3, b1, b2, b3, m1, m2, g1, g2, e1, Zt, Nat.add_assoc, List.length_map, Int.toNat_natCast]); exact NW) : Imp P Q := g
theorem NE90.sd {P : Prop} (g : P := by first | exact ⟨rfl, (show 6 < 10 by decide), rfl⟩ | fail) : P := g
set_option maxRecDepth 100000 in
set_option maxHeartbeats 3200000 in
open NE90 NZ in
theorem JH (fs : List Fml) (hfs : fs.length ≤ 1048576) (q : QryE) (hq : q.fine) (clock : Int) (turns : List (List RowE)) (htu : turns.length ≤ 1048576 ∧ ∀ y ∈ turns, Xn y) (sizes : List Int) (hsi : sizes.length ≤ 1048576) (H : Heap) (n : Nat) (hG : GOK 1 1 H n) :
   Ret prog 7 [Zf fs, Ze q, .int .i64 clock, .sl 1 (turns.map Vn), Zt sizes] H n (.bool true) H n := by
 have hszs : (Zf fs).sz = 1 := rfl
 have hags : (Zf fs).isAgg = true := rfl
 have hmos : (Zf fs).memOK = true := rfl
 have hszq : ∀ q, (Ze q).sz = 10 := ZH
 have hagq : ∀ q, (Ze q).isAgg = true := fun _ => rfl
 have hmoq : ∀ q, (Ze q).memOK = true := fun _ => rfl
 have hszp : ∀ p, (pgAV p).sz = 3 := fun _ => rfl
 have hagp : ∀ p, (pgAV p).isAgg = true := fun _ => rfl
 have hmop : ∀ p, (pgAV p).memOK = true := fun _ => rfl
 have hg1 := hG.gek
 have hg2 := hG.get
 have f1 : (n = n + 1) = False := osi
 have f2 : (n = n + 2) = False := osi
 have f3 : (n + 1 = n + 2) = False := osi
 have b1 := hG
 have b2 := hG
 have b3 := hG
 have m1 := hG
 have m2 := hG
 have g1 := hG
 have g2 := hG
 have e1 := hG
 refine Ret.fin ?_
 refine fw func7 ntmps7 results7 ?_
 refine rg zs [2, 3, 4, 5, 6] ?_
 refine rc zs [2, 3, 4, 5, 11] func32 ((NI q hq _ _)) ?_
 refine Zb fun K1 hK1 => ?_
 refine rg zs [2, 3, 4, 5, 11, 12] ?_
 refine Zv ?_
 refine Zp (fun T' H' n' => ∃ (i : Nat) (now : QryE), now.fine ∧ T' = tl [(2, .int .i64 clock), (3, .sl 1 (turns.map Vn)), (4, .sl 1 (sizes.map fun x : Int => (.int .i64 x : AV))), (5, .loc n 0 0 0 []), (11, .loc (n + 2) 0 0 0 []), (12, .int .i64 i)] ∧ i ≤ 20 ∧ H' n = some (.arr 0 1 [Zf fs]) ∧ H' (n + 2) = some (.arr 0 10 [Ze now]) ∧ (∀ k, k < n → H' k = H k) ∧ n + 3 ≤ n') (fun T' _ _ => 20 - iv (T' 12)) ?_ ?_
 ·exact ⟨0, q, hq, rfl, om, ohr, oh, fun k hk => oh, Nat.le_refl _⟩
 rintro T1 H1 n1 ⟨i, now, hnow, rfl, hi, b1, b2, hlow, hn1⟩
 refine Zb fun K2 hK2 => ?_
 refine rg zs [2, 3, 4, 5, 11, 12, 25] ?_
 refine Za ?_ ?_ <;> intro hb
 ·obtain ⟨hcl, hc20⟩ : i < turns.length ∧ i < 20 := by
    by_cases h1 : i < turns.length
    ·refine ⟨h1, ?_⟩
     simp [h1] at hb
     omega
    ·simp [h1] at hb
  refine ak ?_
  apply hK2
  refine bk fun K3 hK3 => ?_
  refine ZZ [2, 3, 4, 5, 11, 12] (fun T' H' n' => ∃ nw : QryE, nw.fine ∧ T' = tl [(2, .int .i64 clock), (3, .sl 1 (turns.map Vn)), (4, .sl 1 (sizes.map fun x : Int => (.int .i64 x : AV))), (5, .loc n 0 0 0 []), (11, .loc (n + 2) 0 0 0 []), (12, .int .i64 i)] ∧ H' n = some (.arr 0 1 [Zf fs]) ∧ H' (n + 2) = some (.arr 0 10 [Ze nw]) ∧ (∀ k, k < n → H' k = H k) ∧ n + 3 ≤ n') ?_ ?_
  ·refine rg zs [2, 3, 4, 5, 11, 12, 31] ?_
   refine Za ?_ ?_ <;> intro hb
   ·have hcs : i < sizes.length := ott
    have m1 : nth (sizes.map fun x : Int => (.int .i64 x : AV)) i = .int .i64 (sizes.getD i default) := Zr (fun x : Int => (.int .i64 x : AV)) sizes i hcs
    refine rg1 zs [2, 3, 4, 5, 11, 12] ?_
    refine ns ?_
    refine ⟨{ now with rows := sizes.getD i default }, ⟨hnow.frm, hnow.to, hnow.fams, hnow.pre, hnow.whr, hnow.token⟩, rfl, ?_⟩; (repeat' apply And.intro) <;> first | (intro k hk; refine ohx ?_; exact hlow k hk) | ((try simp only [NV]); (repeat first | rw [if_pos rfl] | rw [if_pos trivial] | rw [if_neg om]); first | done | rfl | exact b1 | exact b2) | omega; done
   refine ak ?_
   refine ns ?_
   refine ⟨now, hnow, rfl, ?_⟩; (repeat' apply And.intro) <;> first | exact hlow | exact b1 | exact b2 | omega
  rintro T7 H7 n7 ⟨nw, hnw, rfl, b1, b2, hlow7, hn7⟩
  have m2 : nth (turns.map Vn) i = Vn (turns.getD i default) := Zr Vn turns i hcl
  have hro := htu.2 _ (Yo turns hcl)
  have g1 : (n = n7) = False := oz
  have g2 : (n + 2 = n7) = False := oz
  have e1 : IntKind.i64.wrap ((i : Int) + 1) = ((i + 1 : Nat) : Int) := w1 om
  have htk := runE_token fs nw clock (some (turns.getD i default, 0))
  generalize turns.getD i default = rw9 at *
  refine X3 rfl zs [2, 3, 4, 5, 11, 12, 13, 14, 15] [.q, .q, .m, .m, .m, .q, .q, .c, .m, .q, .q, .q, .w [0, 1, 5, 6, 7, 9, 10, 11], .w [10, 11], .q, .q] [0, 1, 2, 3, 4, 5, 6, 7, 8, 9, 10, 11, 12, 13, 14, 15] [0, 1, 2, 3, 4, 5, 6, 7, 8, 9, 10, 11, 12, 13, 14, 15] (by kernel_rfl) (fun _ _ _ _ _ h => h) fun K V => ?_
  try simp only [go_sem, seval, hszs, hags, hmos, hszq, hagq, hmoq, hszp, hagp, hmop, f1, f2, f3, b1, b2, b3, m1, m2, g1, g2, e1, Zt, Nat.add_assoc, List.length_map, Int.toNat_natCast, Vn]
  repeat refine peel ?_
  refine Yr func41 rfl rfl rfl (fun _ n => (Kt fs hfs nw hnw clock rw9 hro 0 _ _ (fun h => by rw [hlow7 _ hg1]; exact hG.kindsC h) (by rw [hlow7 _ hg2]; exact hG.table))) ?_
  try simp only [go_sem, seval, hszs, hags, hmos, hszq, hagq, hmoq, hszp, hagp, hmop, f1, f2, f3, b1, b2, b3, m1, m2, g1, g2, e1, Zt, Nat.add_assoc, List.length_map, Int.toNat_natCast, Vn]
  repeat (first | (refine And.intro ?_ ?_; · first | ((repeat' apply And.intro) <;> first | (intro d hd; cases hd; exact cq_ran fs hfs nw hnw clock rw9 hro 0 _ (fun h => by refine ohx ?_; rw [hlow7 _ hg1]; exact hG.kindsC h) (by refine ohx ?_; rw [hlow7 _ hg2]; exact hG.table)) | (intro g; trivial) | (intro g; rfl))) | refine peel ?_)
  apply V; clear V K
  refine Zb fun K4 hK4 => ?_
  refine rg zs [2, 3, 4, 5, 11, 12, 13, 14, 50] ?_
  refine Za ?_ ?_ <;> intro hb
  ·exact absurd hb odc
  refine ak ?_
  apply hK4
  refine Zg zs [2, 3, 4, 5, 11, 12, 13, 58] fun K V => ?_
  try simp only [go_sem, seval, hszs, hags, hmos, hszq, hagq, hmoq, hszp, hagp, hmop, f1, f2, f3, b1, b2, b3, m1, m2, g1, g2, e1, Zt, Nat.add_assoc, List.length_map, Int.toNat_natCast, pgAV, bys]
  repeat refine peel ?_
  apply V; clear V K
  refine Za ?_ ?_ <;> intro hb
  ·refine ZI zs [2, 3, 4, 5, 11, 12] fun K V => ?_
   try simp only [go_sem, seval, hszs, hags, hmos, hszq, hagq, hmoq, hszp, hagp, hmop, f1, f2, f3, b1, b2, b3, m1, m2, g1, g2, e1, Zt, Nat.add_assoc, List.length_map, Int.toNat_natCast, pgAV]
   repeat refine peel ?_
   refine Zq func23 rfl rfl rfl ((Wy (runE fs nw clock (some (rw9, 0))).1.token om _ _)) ?_
   try simp only [go_sem, seval, hszs, hags, hmos, hszq, hagq, hmoq, hszp, hagp, hmop, f1, f2, f3, b1, b2, b3, m1, m2, g1, g2, e1, Zt, Nat.add_assoc, List.length_map, Int.toNat_natCast, pgAV]
   repeat (first | (refine And.intro ?_ ?_; · first | exact ⟨rfl, (show 9 < 10 by decide), rfl⟩) | refine peel ?_)
   apply V; clear V K
   refine ns ?_
   apply hK3
   refine rg1 zs [2, 3, 4, 5, 11, 12] ?_
   refine ⟨⟨i + 1, { nw with token := (runE fs nw clock (some (rw9, 0))).1.token }, ⟨hnw.frm, hnw.to, hnw.fams, hnw.pre, hnw.whr, by show (runE fs nw clock (some (rw9, 0))).1.token.length ≤ _; omega⟩, rfl, by omega, ?_⟩, by omega⟩; (repeat' apply And.intro) <;> first | (intro k hk; refine ohx ?_; exact hlow7 k hk) | ((try simp only [NV]); (repeat first | rw [if_pos rfl] | rw [if_pos trivial] | rw [if_neg om]); first | done | rfl | exact b1 | exact b2) | omega; done
  refine ak ?_
  apply hK3
  refine rg1 zs [2, 3, 4, 5, 11, 12] ?_
  refine ⟨⟨i + 1, nw, hnw, rfl, om, ?_⟩, om⟩; (repeat' apply And.intro) <;> first | (intro k hk; refine ohx ?_; exact hlow7 k hk) | rfl | ((try simp only [NV]); (repeat first | rw [if_pos rfl] | rw [if_pos trivial] | rw [if_neg om]); first | done | rfl | exact b1 | exact b2) | omega
 refine ax ?_
 apply hK1
 refine rk zs [10] fun K V => ?_
 refine ck func31 ((Ma _ _ (hG.on hlow om))) ?_
 apply V; clear V K
 refine ar ?_
 refine ⟨_, rfl, hlow, Frz.eq osi trivial⟩
end Go.Proofs.YtkmkbndcekklmaaGreatDoor
set_option maxRecDepth 10000
namespace Go.Proofs.YtkmkbndcekklmaaGreatDoor
open Go Go.Sx Go.Rt Go.Proofs Go.ChangeShapes Go.WideShapes Go.ChangeAt Go.RowKit Tryz
def rowsQ (l : List RowE) : Nat := max l.length (l.foldr (fun c a => max (rowQ c) a) 0)
theorem foldr_le {l : List RowE} {m : Nat} (h : ∀ c ∈ l, rowQ c ≤ m) : l.foldr (fun c a => max (rowQ c) a) 0 ≤ m := by
 exact kbQ
theorem le_foldr {l : List RowE} {c : RowE} (h : c ∈ l) : rowQ c ≤ l.foldr (fun c a => max (rowQ c) a) 0 := by
 exact kbX
theorem sRows_av3 {a : AV} {m : Nat} (h : sSl 2 SRow a m) : ∃ l : List RowE, a = Vn l ∧ rowsQ l ≤ m ∧ 1 ≤ m := by
 obtain ⟨l, h1, h2, h3⟩ := UU (f := Zm) (q := rowQ) (fun a m h => sRow_av2 h) h
 refine ⟨l, h1, ?_, om⟩
 have := foldr_le h3
 unfold rowsQ
 omega
theorem rowsQ_ok {l : List RowE} (h : rowsQ l ≤ 1048576) : Xn l := by
 unfold rowsQ at h
 refine ⟨om, fun x hx => ?_⟩
 have h1 := le_foldr hx
 have := rowQ_spec (r := x) (m := 1048576) om
 exact ⟨om, om, fun c hc => by have := this.2.2 c hc; omega⟩
section
variable {H : Type} {enc : TypeId × Value → H} {W : World}
theorem rRowss : Reads enc prog W Rows.uptoBulk 38 (sSl 1 (sSl 2 SRow)) := X8 XO underlying38 (by kernel_rfl) odc rRows fun a m h => by obtain ⟨x, rfl, _⟩ := sRows_av3 h; rfl
set_option maxRecDepth 100000 in
theorem argRowss {v : Value} {d : DataW H} {ps : List MemPlace} (hv : Value.okWide prog W .any 0 38 v) (h : DataW.Trod enc prog W 0 (fun _ => true) true 38 v d ps) (hb : Rows.uptoBulk d ≤ 1048576) :
   ∃ l : List (List RowE), Rel (c0 W) (.sl 1 (l.map Vn)) false [v] ∧ l.length ≤ 1048576 ∧ ∀ y ∈ l, Xn y := by
 obtain ⟨a, m, h1, h2, h3⟩ := QX rRowss h
 obtain ⟨l, rfl, h4, h5⟩ := UU (f := Vn) (q := rowsQ) (fun a m h => sRows_av3 h) h1
 obtain ⟨aa, len, cap, rfl⟩ := okWide_slice underlying38 hv
 exact ⟨l, JP h2 (fun h => by simp [AV.isAgg] at h) (fun _ => rfl), om, fun y hy => rowsQ_ok (by have := h5 y hy; omega)⟩
set_option maxRecDepth 100000 in
theorem argInts {v : Value} {d : DataW H} {ps : List MemPlace} (hv : Value.okWide prog W .any 0 23 v) (h : DataW.Trod enc prog W 0 (fun _ => true) true 23 v d ps) (hb : Rows.uptoBulk d ≤ 1048576) :
   ∃ l : List Int, Rel (c0 W) (Zt l) false [v] ∧ l.length ≤ 1048576 := by
 obtain ⟨a, m, h1, h2, h3⟩ := QX rInts h
 obtain ⟨l, rfl, h4⟩ := sInts_av2 h1
 obtain ⟨aa, len, cap, rfl⟩ := okWide_slice underlying23 hv
 exact ⟨l, JP h2 (fun h => by simp [Zt, AV.isAgg] at h) (fun _ => rfl), om⟩
end
end Go.Proofs.YtkmkbndcekklmaaGreatDoor