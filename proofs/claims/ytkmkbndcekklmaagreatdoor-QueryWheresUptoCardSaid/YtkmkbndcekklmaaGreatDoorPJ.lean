/- Own layer: the cells that are chosen, walked. Of the program; no condition. -/
import Derived.Test.YtkmkbndcekklmaaGreatDoorPI
import Derived.Test.YtkmkbndcekklmaaGreatDoorPF
import Derived.Test.YtkmkbndcekklmaaGreatDoorPD
import Derived.Lib.LaidTab
import Derived.Test.YtkmkbndcekklmaaGreatDoorPH
import Derived.Test.YtkmkbndcekklmaaGreatDoorPE
import Derived.Test.YtkmkbndcekklmaaGreatDoorPG
set_option linter.unusedSimpArgs false
set_option linter.unusedVariables false
set_option maxRecDepth 10000
namespace Go.Proofs.YtkmkbndcekklmaaGreatDoor
open Go Go.Sx Go.Rt Go.Proofs Tryz
def VA : Option Tst → AV
 | none => .nilf
 | some t => ZZ t
theorem Lt (t : Tst) : ∃ f a b, ZZ t = .fn f a b := by cases t <;> exact ⟨_, _, _, rfl⟩
theorem Vz (t : Option Tst) (g : Bool) : strip g (VA t) = VA t := by
 cases t with
 | none => rfl
 | some t => obtain ⟨f, a, b, e⟩ := Lt t; show strip g (ZZ t) = ZZ t; rw [e]; rfl
theorem optAV_neq (t : Option Tst) (ty : TypeId) : qBin prog ty .neq (VA t) .nilf = some (Kg prog ty = true, .bool t.isSome) := by
 cases t with
 | none => rfl
 | some t => obtain ⟨f, a, b, e⟩ := Lt t; show qBin prog ty .neq (ZZ t) .nilf = _; rw [e]; rfl
theorem optAV_call {t : Option Tst} {g : Bool} (c : CelE) {H : Heap} {n : Nat} {k kp : AV → Heap → Nat → Prop} (hg : g = true → t.isSome = true) (hk : k (.opt g (.bool (JY t c))) H n) : Mf prog g (VA t) [Zv c] H n k kp := by
 refine ⟨fun h => ?_, fun h => ⟨.bool (JY t c), h ▸ hk⟩⟩
 subst h
 cases t with
 | none => cases hg rfl
 | some t =>
   obtain ⟨f1, cs1, fn1, e1, hf1, hb1, hn1, hc1⟩ := c_tst t
   show Xi prog (ZZ t) _ _ _ _ _
   rw [e1]
   exact Zt hf1 hb1 hn1 rfl (hc1 c _ _) hk
theorem inFams_go {l : List Int} {f : Int} {j : Nat} (hj : j < l.length) (hf : l.getD j default = f) : Um l f = true := by
 unfold Um
 have : f ∈ l := by rw [← hf]; simp [List.getD, List.getElem?_eq_getElem hj]
 rw [Bool.or_eq_true]; exact .inr (by simpa using this)
theorem inFams_no {l : List Int} {f : Int} (hl : l ≠ []) (h : ∀ i, i < l.length → l.getD i default ≠ f) : Um l f = false := by
 unfold Um
 rw [Bool.or_eq_false_iff]
 refine ⟨by cases l; exact absurd rfl hl; rfl, ?_⟩
 cases hc : l.contains f with
 | false => rfl
 | true =>
   rw [List.contains_iff_mem] at hc
   obtain ⟨i, hi, he⟩ := List.mem_iff_getElem.1 hc
   exact absurd (by simpa [List.getD, List.getElem?_eq_getElem hi] using he) (h i hi)
structure ChS (q : QryE) (t : Option Tst) (cells : List CelE) (H : Heap) (n i : Nat) (ver : Nat) (els : List AV) (ks : List Nat) (H' : Heap) (n' : Nat) : Prop where
 hq : H' n = some (.arr 0 10 [Zm q])
 hl : H' (n + 1) = some (.arr ver 4 els)
 hp : Pile (n + 2) els ((YH q t (cells.take i)).map Zv) ks H' n'
 low : ∀ k, k < n → H' k = H k
 lt : n + 2 ≤ n'
 le : els.length ≤ i
theorem own_cel {H : Heap} {a b : AV} {ks js : List Nat} (c : CelE) (h1 : Own H a (bys c.qual) ks) (h2 : Own H b (bys c.value) js) : Own H (.agg [.int .i64 c.fam, a, .int .i64 c.ts, b]) (Zv c) (ks ++ js) := by
 have := Own.agg (.cons (.nk (a := .int .i64 c.fam) trivial) (.cons h1 (.cons (.nk (a := .int .i64 c.ts) trivial) (.cons h2 .nil))))
 show Own H _ (.agg [.int .i64 c.fam, bys c.qual, .int .i64 c.ts, bys c.value]) _
 simpa using this
theorem chosen_snoc (q : QryE) (t : Option Tst) (l : List CelE) {i : Nat} (h : i < l.length) : YH q t (l.take (i + 1)) = YH q t (l.take i) ++ (if XA q t (l.getD i default) then [l.getD i default] else []) := by
 unfold YH
 rw [Qd l h, List.filter_append]
 congr 1
 simp only [List.filter_cons, List.filter_nil]
theorem ChS.skip {q : QryE} {t : Option Tst} {cells : List CelE} {H : Heap} {n i ver : Nat} {els : List AV} {ks : List Nat} {H1 : Heap} {n1 : Nat} (h : ChS q t cells H n i ver els ks H1 n1) {x : CelE} (hsn : YH q t (cells.take (i + 1)) = YH q t (cells.take i) ++ (if XA q t x then [x] else [])) (hno : XA q t x = false) {H2 : Heap} {n2 : Nat} (hH : ∀ k, k < n1 → H2 k = H1 k) (hn : n1 ≤ n2) : ChS q t cells H n (i + 1) ver els ks H2 n2 where
 hq := (hH _ (by have := h.lt; omega)).trans h.hq
 hl := (hH _ (by have := h.lt; omega)).trans h.hl
 hp := by rw [hsn, hno]; simp only [Bool.false_eq_true, if_false, List.append_nil]; exact h.hp.on (fun k _ hk => hH k hk) hn
 low := fun k hk => (hH k (by have := h.lt; omega)).trans (h.low k hk)
 lt := by have := h.lt; omega
 le := by have := h.le; omega
theorem ChS.add {q : QryE} {t : Option Tst} {cells : List CelE} {H : Heap} {n i ver : Nat} {els : List AV} {ks js : List Nat} {H1 : Heap} {n1 : Nat} (h : ChS q t cells H n i ver els ks H1 n1) {x : CelE} (hsn : YH q t (cells.take (i + 1)) = YH q t (cells.take i) ++ (if XA q t x then [x] else [])) (hno : XA q t x = true) {H2 : Heap} {n2 : Nat} {a : AV}
   (hH : ∀ k, k < n1 → k ≠ n + 1 → H2 k = H1 k) (hn : n1 ≤ n2) (hl : H2 (n + 1) = some (.arr (ver + 1) 4 (els ++ [a]))) (ho : Own H2 a (Zv x) js) (hd : js.Nodup) (hj : ∀ k ∈ js, n1 ≤ k ∧ k < n2) : ChS q t cells H n (i + 1) (ver + 1) (els ++ [a]) (ks ++ js) H2 n2 where
 hq := (hH _ (by have := h.lt; omega) om).trans h.hq
 hl := hl
 hp := by rw [hsn, hno, List.map_append]; simp only [if_true]; exact h.hp.add (fun k h1 hk => hH k hk om) ho hd hj h.lt hn
 low := fun k hk => (hH k (by have := h.lt; omega) om).trans (h.low k hk)
 lt := by have := h.lt; omega
 le := by have := h.le; rw [List.length_append]; simp; omega
theorem NB80.eqs {P Q : Prop} (g : Imp P Q := by (try simp only [go_sem, seval, hsz, hag, hmo, hcs, hca, hcm, f1, List.length_map, Vz, optAV_neq, hQ, hL, hnth, hnf, g1, g2, g3, hx, hs, hs2, l1, l2, l3, z1, z3, z4, z6, Int.toNat_natCast, Zv, Zm, bys, Yg]); exact MI) : Imp P Q := g
theorem NB80.sd {P : Prop} (g : P := by first | exact ⟨rfl, by (simp [AV.sz, AV.szs, AV.memOK, z1, z3, z4, z6]; first | done | fail)⟩ | exact ⟨Nat.le_refl _, .inr trivial, by have := hC.le; omega, by have := hC.le; omega⟩ | fail) : P := g
set_option maxHeartbeats 3200000 in
open NB80 NZ in
theorem Lv (q : QryE) (hqf : q.fams.length ≤ 1048576) (t : Option Tst) (cells : List CelE) (hcl : cells.length ≤ 1048576) (hcb : ∀ c ∈ cells, c.qual.length ≤ 1099511627776 ∧ c.value.length ≤ 1099511627776) (H : Heap) (n : Nat) :
   Zi prog 55 [Zm q, VA t, .sl 4 (cells.map Zv)] H n (OAns H n (.sl 4 ((YH q t cells).map Zv))) := by
 have hsz : (Zm q).sz = 10 := Y0 q
 have hag : (Zm q).isAgg = true := rfl
 have hmo : (Zm q).memOK = true := rfl
 have hcs : ∀ c, (Zv c).sz = 4 := Ww
 have hca : ∀ c, (Zv c).isAgg = true := fun _ => rfl
 have hcm : ∀ c, (Zv c).memOK = true := fun _ => rfl
 have hQ := hsz
 have hL := hsz
 have hnth := hsz
 have hnf := hsz
 have g1 := hsz
 have g2 := hsz
 have g3 := hsz
 have hx := hsz
 have hs := hsz
 have hs2 := hsz
 have hA := hsz
 have l1 := hsz
 have l2 := hsz
 have l3 := hsz
 have z1 := hsz
 have z3 := hsz
 have z4 := hsz
 have z6 := hsz
 have f1 : (n = n + 1) = False := osi
 refine fw func55 ntmps55 results55 ?_
 refine rg zs [1, 2, 3] ?_
 refine awp_scope ?_
 refine rg zs [1, 2, 3, 7] ?_
 refine Zb fun K1 hK1 => ?_
 refine awp_label ?_
 refine ns ?_
 apply hK1
 refine Zb fun K2 hK2 => ?_
 refine rg zs [1, 3, 7, 12, 13, 14] ?_
 refine ZJ ?_
 refine YK 7 4 rfl ?_
 refine Xb [1, 3, 7, 12, 13, 14] ?_
 simp only [go_sem, seval]
 refine Zo (fun T' H' n' => ∃ (i ver : Nat) (els : List AV) (ks : List Nat), i ≤ cells.length ∧ T' = tl [(1, VA t), (3, .loc n 0 0 0 []), (7, .osl (n + 1) ver 0 els.length), (12, .sl 4 (cells.map Zv)), (13, .int .i64 cells.length), (14, .int .i64 i)] ∧ ChS q t cells H n i ver els ks H' n') (fun T' _ _ => cells.length - iv (T' 14)) ?_ ?_
 ·exact ⟨0, 0, [], [], Nat.zero_le _, rfl, ⟨by simp [Heap.put]; rfl, MF _ _ _, Pile.nil _ _ _, fun k hk => oh, om, Nat.le_refl _⟩⟩
 rintro T1 H1 n1 ⟨i, ver, els, ks, hi, rfl, hC⟩
 have hQ := hC.hq
 have hL := hC.hl
 have hn1 := hC.lt
 refine rg zs [1, 3, 7, 12, 13, 14, 15] ?_
 refine Zb fun K3 hK3 => ?_
 refine Za ?_ ?_ <;> intro hb
 ·have hlt : i < cells.length := ott
  have hnth : nth (cells.map Zv) i = Zv (cells.getD i default) := ZP Zv cells i hlt
  have hsn := chosen_snoc q t cells hlt
  have hcb1 := hcb _ (Wv cells hlt)
  generalize cells.getD i default = x at *
  have g1 : (n = n1) = False := oz
  have g2 : (n + 1 = n1) = False := oz
  have hx : IntKind.i64.wrap ((i : Int) + 1) = ((i + 1 : Nat) : Int) := w1 om
  have hsome : t.isSome = false → JY t x = true := by intro h; cases t; rfl; cases h
  refine ak ?_
  apply hK3
  refine Yb [1, 3, 7, 12, 13, 14] (fun T' H' n' => ∃ ver els ks, T' = tl [(1, VA t), (3, .loc n 0 0 0 []), (7, .osl (n + 1) ver 0 els.length), (12, .sl 4 (cells.map Zv)), (13, .int .i64 cells.length), (14, .int .i64 i)] ∧ ChS q t cells H n (i + 1) ver els ks H' n') ?_ ?_
  ·refine ZJ ?_
   refine rg zs [1, 3, 7, 9, 12, 13, 14] ?_
   refine Zb fun K4 hK4 => ?_
   refine rk zs [1, 3, 7, 9, 12, 13, 14, 33] fun K V => ?_
   refine ck func82 ((VH x.qual q.pre _ _)) ?_
   refine optAV_call x ?_ ?_
   ·intro h9; simp at h9; exact h9.2
   refine nz ?_
   apply V; clear V K
   refine Za ?_ ?_ <;> intro hb
   ·have hno : XA q t x = false := by unfold XA; cases h1 : q.pre.isPrefixOf x.qual <;> cases h2 : JY t x <;> cases h3 : t.isSome <;> simp_all
    refine ax ?_
    refine ns ?_
    exact ⟨ver, els, ks, rfl, hC.skip hsn hno (fun k hk => ME _ _ om) om⟩
   have hye : XA q t x = Um q.fams x.fam := by unfold XA; cases h1 : q.pre.isPrefixOf x.qual <;> cases h2 : JY t x <;> cases h3 : t.isSome <;> simp_all
   refine ak ?_
   apply hK4
   refine Yb [1, 3, 7, 9, 12, 13, 14] (fun T' H' n' => T' = tl [(1, VA t), (3, .loc n 0 0 0 []), (7, .osl (n + 1) ver 0 els.length), (9, .loc n1 0 0 0 []), (12, .sl 4 (cells.map Zv)), (13, .int .i64 cells.length), (14, .int .i64 i)] ∧ Um q.fams x.fam = true ∧ H' = H1.put n1 (some (.arr 0 4 [Zv x])) ∧ n' = n1 + 1) ?_ ?_
   ·refine rg zs [1, 3, 7, 9, 12, 13, 14, 35, 36, 37] ?_
    refine ZJ ?_
    refine Zo (fun T' H' n' => ∃ j : Nat, j ≤ q.fams.length ∧ (∀ m, m < j → q.fams.getD m default ≠ x.fam) ∧ (j = q.fams.length → q.fams = []) ∧ T' = tl [(1, VA t), (3, .loc n 0 0 0 []), (7, .osl (n + 1) ver 0 els.length), (9, .loc n1 0 0 0 []), (12, .sl 4 (cells.map Zv)), (13, .int .i64 cells.length), (14, .int .i64 i), (35, Yg q.fams), (36, .int .i64 q.fams.length), (37, .int .i64 j)] ∧ H' = H1.put n1 (some (.arr 0 4 [Zv x])) ∧ n' = n1 + 1) (fun T' _ _ => q.fams.length - iv (T' 37)) ?_ ?_
    ·exact ⟨0, Nat.zero_le _, fun m hm => om, fun h => List.length_eq_zero_iff.1 h.symm, rfl, rfl, rfl⟩
    rintro T1 H1 n1 ⟨j, hj, hjn, hj0, rfl, rfl, rfl⟩
    refine rg zs [1, 3, 7, 9, 12, 13, 14, 35, 36, 37, 38] ?_
    refine Zb fun K5 hK5 => ?_
    refine Za ?_ ?_ <;> intro hb
    ·have hjl : j < q.fams.length := ott
     have hnf : nth (q.fams.map fun x : Int => (.int .i64 x : AV)) j = .int .i64 (q.fams.getD j default) := ZP (fun x : Int => (.int .i64 x : AV)) q.fams j hjl
     have hs : IntKind.i64.wrap ((j : Int) + 1) = ((j + 1 : Nat) : Int) := w1 om
     have hs2 : IntKind.i64.wrap ((q.fams.length : Int) - 1) = ((q.fams.length - 1 : Nat) : Int) := by rw [w64 om om]; omega
     refine ak ?_
     apply hK5
     refine bk fun K6 hK6 => ?_
     refine rg zs [1, 3, 7, 9, 10, 11, 12, 13, 14, 35, 36, 37] ?_
     refine Zb fun K7 hK7 => ?_
     refine rg zs [1, 3, 7, 9, 10, 12, 13, 14, 35, 36, 37, 45] ?_
     refine Za ?_ ?_ <;> intro hb
     ·have hin : Um q.fams x.fam = true := inFams_go hjl osb
      refine ax ?_
      refine ns ?_
      exact hin
     have hne : q.fams.getD j default ≠ x.fam := osb
     refine ak ?_
     apply hK7
     refine rg zs [1, 3, 7, 9, 12, 13, 14, 35, 36, 37, 51] ?_
     refine Za ?_ ?_ <;> intro hb
     ·have hno : XA q t x = false := by
        rw [hye]
        refine inFams_no (fun e => by rw [e] at hjl; cases hjl) fun m hm => ?_
        have h9 : j = q.fams.length - 1 := by have h9 := hb; simp at h9; omega
        rcases Nat.lt_or_ge m j with h | h
        ·exact hjn m h
        ·rw [show m = j by omega]; exact hne
      refine ax ?_
      refine ns ?_
      exact ⟨ver, els, ks, rfl, hC.skip hsn hno (fun k hk => ME _ _ om) om⟩
     have h9 : j ≠ q.fams.length - 1 := by have h9 := hb; simp at h9; omega
     refine ak ?_
     apply hK6
     refine rg1 zs [1, 3, 7, 9, 12, 13, 14, 35, 36, 37] ?_
     exact ⟨⟨j + 1, om, fun m hm => (by rcases Nat.lt_or_ge m j with h | h; exact hjn m h; rw [show m = j by omega]; exact hne), fun h => by omega, rfl⟩, by omega⟩
    have hin : Um q.fams x.fam = true := by have : q.fams = [] := hj0 otf; rw [this]; rfl
    refine ax ?_
    refine ns ?_
    exact hin
   rintro T2 H2 n2 ⟨rfl, hin, rfl, rfl⟩
   have hyes : XA q t x = true := hye.trans hin
   refine dx1 zs [1, 3, 7, 12, 13, 14] [.m, .q, .q, .q, .q, .w [1, 2, 6, 7, 8, 9], .q, .q, .q, .q, .w [1, 2, 6, 7], .q, .q, .w [], .q] [0, 1, 2, 3, 4, 6, 7, 8, 9, 5, 10, 11, 12, 13, 14] [0, 1, 2, 3, 4, 9, 5, 6, 7, 8, 10, 11, 12, 13, 14] fun K V => ?_
   refine cK func53 (YJ x.qual hcb1.1 _ _) ?_ ?_
   ·intro p H' n' hc; exact hc.pan.elim
   intro rr H5 n5 hc
   obtain ⟨js, hN⟩ := hc.got
   have hs := fun g => hN.own.strip g
   have l1 := (hN.low n1 om).trans (MF _ _ _)
   have hn5 := hN.nn
   obtain ⟨z1, z2, z3⟩ := hN.own.sl_sz
   refine nz ?_
   refine cK func53 (YJ x.value hcb1.2 _ _) ?_ ?_
   ·intro p H' n' hc; exact hc.pan.elim
   intro r2 H6 n6 hc
   obtain ⟨js2, hN2⟩ := hc.got
   have hs2 := fun g => hN2.own.strip g
   obtain ⟨z4, z5, z6⟩ := hN2.own.sl_sz
   have l2 := (hN2.low n1 om).trans l1
   have l3 : H6 (n + 1) = some (.arr ver 4 els) := (hN2.low _ om).trans ((hN.low _ om).trans ((ME _ _ om).trans hL))
   refine nz ?_
   apply V; clear V K
   refine ns ?_
   refine ns ?_
   first
   | (rw [List.take_of_length_le (Nat.le_refl els.length)]
      have hn6 := hN2.nn
      refine ⟨ver + 1, _, ks ++ (js ++ js2), by rw [List.length_append]; rfl, hC.add hsn hyes (fun k hk hne => ?_) om (MF _ _ _) (own_cel x (hN.own.frame fun k hk => ?_) (hN2.own.frame fun k hk => ?_)) (List.nodup_append.2 ⟨hN.nd, hN2.nd, fun a ha b hb e => by have := hN.lo a ha; have := hN2.lo b hb; omega⟩) (fun k hk => ?_)⟩
      ·rw [ME _ _ hne, hN2.low k om, hN.low k om, ME _ _ om]
      ·have := hN.lo k hk; rw [ME _ _ om, hN2.low k om]
      ·have := hN2.lo k hk; rw [ME _ _ om]
      ·rcases List.mem_append.1 hk with h | h
       ·have := hN.lo k h; omega
       ·have := hN2.lo k h; omega)
  rintro T9 H9 n9 ⟨ver9, els9, ks9, rfl, hC9⟩
  refine rg1 zs [1, 3, 7, 12, 13, 14] ?_
  exact ⟨⟨i + 1, _, _, _, om, rfl, hC9⟩, om⟩
 have hge : i = cells.length := otf
 refine ax ?_
 apply hK2
 refine rg zs [6] ?_
 refine ar ?_
 subst hge
 have hp := hC.hp
 rw [List.take_of_length_le (Nat.le_refl _)] at hp
 obtain ⟨o1, o2, o3⟩ := Pile.list (len := els.length) (els := els) (by rw [List.take_of_length_le (Nat.le_refl _)]; exact hp) hL (Nat.le_refl _) om
 exact ⟨_, _, rfl, o1, o2, fun k hk => by have := o3 k hk; omega, hC.low, om⟩
def qaX (q : QryE) (f t m p k : AV) : AV := .agg [f, t, m, p, .int .i64 q.time, .int .i64 q.n, .int .i64 q.rows, .bool q.rev, .str q.whr, k]
structure QL (ks : List Nat) (H : Heap) (q : QryE) (f t m p k : AV) : Prop where
 f : LSl ks H f 1 (q.frm.map Zd)
 t : LSl ks H t 1 (q.to.map Zd)
 m : LSl ks H m 1 (q.fams.map fun n => .int .i64 n)
 p : LSl ks H p 1 (q.pre.map Zd)
 k : LSl ks H k 1 (q.token.map Zd)
section
variable {ks : List Nat} {H : Heap} {q : QryE} {f t m p k : AV}
theorem QL.on {H' : Heap} (h : QL ks H q f t m p k) (hk : ∀ j ∈ ks, H' j = H j) : QL ks H' q f t m p k := ⟨h.f.on hk, h.t.on hk, h.m.on hk, h.p.on hk, h.k.on hk⟩
theorem QL.frz (h : QL ks H q f t m p k) : Frz H 0 (qaX q f t m p k) (Zm q) :=
 .agg (.cons h.f.l.frz (.cons h.t.l.frz (.cons h.m.l.frz (.cons h.p.l.frz (.cons (.kl trivial) (.cons (.kl trivial) (.cons (.kl trivial) (.cons (.kl trivial) (.cons (.kl trivial) (.cons h.k.l.frz .nil))))))))))
theorem QL.sz (h : QL ks H q f t m p k) : (qaX q f t m p k).sz = 10 := by simp [qaX, AV.sz, AV.szs, h.f.sz, h.t.sz, h.m.sz, h.p.sz, h.k.sz]
theorem QL.ro (q : QryE) (H : Heap) : QL [] H q (bys q.frm) (bys q.to) (Yg q.fams) (bys q.pre) (bys q.token) := ⟨.ro (Z4 _ _), .ro (Z4 _ _), .ro (kl_nums _ _), .ro (Z4 _ _), .ro (Z4 _ _)⟩
theorem l_query_Check (fs : List Fml) (hfs : fs.length ≤ 1048576) (hq : q.fine) {n : Nat} (hG : GOK 1 1 H n) (h : QL ks H q f t m p k) : Ret prog 34 [Zg fs, qaX q f t m p k] H n (.int .i64 (qcE fs q)) H n :=
 Nl (H0 := HQ) (Vd hG) (.cons (.kl (kl_sch fs 0)) (.cons h.frz .nil)) trivial (c_query_Check fs hfs q hq (QG hG.gek hG.get))
theorem l_query_At (hq : q.fine) (clock : Int) {n : Nat} (hG : GOK 1 1 H n) (h : QL ks H q f t m p k) : Ret prog 36 [qaX q f t m p k, .int .i64 clock] H n (.tup [.int .i64 (atE q clock).1, .int .i64 (atE q clock).2]) H n :=
 Nl (H0 := HQ) (Vd hG) (.cons h.frz (.cons (.kl trivial) .nil)) ⟨trivial, trivial, trivial⟩ (c_query_At q hq clock (QG hG.gek hG.get))
theorem LC (hq : q.fine) {n : Nat} (hG : GOK 1 1 H n) (h : QL ks H q f t m p k) : Zi prog 24 [qaX q f t m p k] H n (OAns H n (Vs q)) :=
 OAns.lend (Vd hG) (.cons h.frz .nil) (o_query_Start q hq (QG hG.gek hG.get))
theorem Qv (hq : q.fine) {n : Nat} (hG : GOK 1 1 H n) (h : QL ks H q f t m p k) : Ret prog 24 [qaX q f t m p k] H n (Vs q) H n := OAns.fin (LC hq hG h)
theorem KD (h : QL ks H q f t m p k) {js : List Nat} {ra : AV} {row : List UInt8} (hr : LSl js H ra 1 (row.map Zd)) (last : Option (List UInt8)) (hl : ∀ l, last = some l → l ≠ []) (start : List UInt8) (has : Bool) (n : Nat) : Ret prog 52 [qaX q f t m p k, ra, LG last, bys start, .bool has] H n (.bool (Y2 q row last start has)) H n :=
 Ret.lend trivial (.cons h.frz (.cons hr.l.frz (.cons (.kl (by cases last; trivial; exact QE _ _)) (.cons (.kl (QE _ _)) (.cons (.kl trivial) .nil))))) (KH q row last hl start has _ _)
theorem Uy {js is : List Nat} {a b : AV} {x y : List UInt8} (ha : LSl js H a 1 (x.map Zd)) (hb : LSl is H b 1 (y.map Zd)) (n : Nat) : Ret prog 54 [a, b] H n (.int .i64 (Lib.compareBytes x y)) H n :=
 Ret.lend trivial (.cons ha.l.frz (.cons hb.l.frz .nil)) (ZY x y _ _)
theorem LD {js : List Nat} {a : AV} {x : List UInt8} (ha : LSl js H a 1 (x.map Zd)) (hx : x.length ≤ 1099511627776) (n : Nat) : Zi prog 53 [a] H n (OAns H n (bys x)) :=
 OAns.lend (JA.none H) (.cons ha.l.frz .nil) (YJ x hx _ _)
theorem kl_optAV (t : Option Tst) (n : Nat) : (VA t).kl n := by cases t; trivial; exact Y1 _ _
theorem KC (h : QL ks H q f t m p k) (hqf : q.fams.length ≤ 1048576) (tt : Option Tst) {js : List Nat} {ca : AV} {cells : List CelE} (hc : LSl js H ca 4 (cells.map Zv)) (hcl : cells.length ≤ 1048576) (hcb : ∀ c ∈ cells, c.qual.length ≤ 1099511627776 ∧ c.value.length ≤ 1099511627776) (n : Nat) :
   Zi prog 55 [qaX q f t m p k, VA tt, ca] H n (OAns H n (.sl 4 ((YH q tt cells).map Zv))) :=
 OAns.lend (JA.none H) (.cons h.frz (.cons (.kl (kl_optAV tt 0)) (.cons hc.l.frz .nil))) (Lv q hqf tt cells hcl hcb _ _)
theorem LB (hq : q.fine) {n : Nat} (hG : GOK 1 1 H n) (h : QL ks H q f t m p k) (time : Int) (row : List UInt8) (hr : row.length ≤ 256) : Zi prog 56 [.agg [.int .i64 time, bys row], qaX q f t m p k] H n (OAns H n (bys (tokB q time row))) :=
 OAns.lend (Vd hG) (.cons (.kl ⟨trivial, QE _ _, trivial⟩) (.cons h.frz .nil)) (WB q hq time row hr (QG hG.gek hG.get))
end
end Go.Proofs.YtkmkbndcekklmaaGreatDoor
set_option maxRecDepth 10000
namespace Go.Proofs.YtkmkbndcekklmaaGreatDoor
open Go Go.Sx Go.Rt Go.Proofs
structure RnS (fs : List Fml) (qa : AV) (rows : List RowE) (err : Int) (ks kw kt lo m n0 : Nat) (acc : List RowE) (ver : Nat) (els : List AV) (pk : List Nat) (vw vt : Nat) (kb : List (Nat × List UInt8)) (tels : List AV) (tk : List Nat) (H0 H : Heap) (n : Nat) : Prop where
 hs : H n0 = some (.arr 0 1 [Zg fs])
 hq : H (n0 + 1) = some (.arr 0 10 [qa])
 hz : H (n0 + 2) = some (.arr 0 3 [.agg [.nilsl, .nilsl, .bool false]])
 hp : H (n0 + 3) = some (.arr 0 3 [.agg [.osl (n0 + 4) ver 0 els.length, .nilsl, .bool false]])
 hl : H (n0 + 4) = some (.arr ver 2 els)
 pile : Pile (n0 + 5) els (acc.map ZO) pk H n
 src : SrcS rows err ks kw kt lo m vw vt kb tels tk H n
 tkd : ∀ k ∈ tk, n0 + 5 ≤ k ∧ k ∉ pk
 low : ∀ k, k < n0 → k ≠ ks → k ≠ kw → k ≠ kt → H k = H0 k
 lt : n0 + 5 ≤ n ∧ lo ≤ n0
 b : tels.length ≤ m ∧ kb.length ≤ m * 2097153 ∧ els.length ≤ m
section
variable {fs : List Fml} {qa : AV} {rows : List RowE} {err : Int} {ks kw kt lo m n0 : Nat} {acc : List RowE} {ver : Nat} {els : List AV} {pk : List Nat} {vw vt : Nat} {kb : List (Nat × List UInt8)} {tels : List AV} {tk : List Nat} {H0 H : Heap} {n : Nat}
theorem RnS.on (h : RnS fs qa rows err ks kw kt lo m n0 acc ver els pk vw vt kb tels tk H0 H n) {H2 : Heap} {n2 : Nat} (hH : ∀ k, k < n → H2 k = H k) (hn : n ≤ n2) : RnS fs qa rows err ks kw kt lo m n0 acc ver els pk vw vt kb tels tk H0 H2 n2 := by
 obtain ⟨d1, d2, d3, d4, d5, d6, d7⟩ := h.src.d
 have hlt := h.lt
 exact {
   hs := (hH _ om).trans h.hs
   hq := (hH _ om).trans h.hq
   hz := (hH _ om).trans h.hz
   hp := (hH _ om).trans h.hp
   hl := (hH _ om).trans h.hl
   pile := h.pile.on (fun k _ a => hH k a) hn
   src := h.src.on (fun k hk => hH k (by rcases hk with rfl | rfl | rfl | hk; omega; omega; omega; exact (h.src.told.lo k hk).2)) hn
   tkd := h.tkd
   low := fun k a b c d => (hH k om).trans (h.low k a b c d)
   lt := om
   b := h.b }
theorem RnS.next (h : RnS fs qa rows err ks kw kt lo m n0 acc ver els pk vw vt kb tels tk H0 H n) {H2 : Heap} {n2 vw2 vt2 : Nat} {kb2 : List (Nat × List UInt8)} {tels2 : List AV} {tk2 : List Nat} (hn : n ≤ n2) (hH : ∀ k, k < n → k ≠ ks → k ≠ kw → k ≠ kt → H2 k = H k)
   (hs : SrcS rows err ks kw kt lo (m + 1) vw2 vt2 kb2 tels2 tk2 H2 n2) (htk : ∀ k ∈ tk2, k ∈ tk ∨ n ≤ k) (h1 : tels2.length ≤ m + 1) (h2 : kb2.length ≤ kb.length + 2097153) : RnS fs qa rows err ks kw kt lo (m + 1) n0 acc ver els pk vw2 vt2 kb2 tels2 tk2 H0 H2 n2 := by
 obtain ⟨d1, d2, d3, d4, d5, d6, d7⟩ := h.src.d
 have hlt := h.lt
 have hb := h.b
 exact {
   hs := (hH _ om om om om).trans h.hs
   hq := (hH _ om om om om).trans h.hq
   hz := (hH _ om om om om).trans h.hz
   hp := (hH _ om om om om).trans h.hp
   hl := (hH _ om om om om).trans h.hl
   pile := h.pile.on (fun k a b => hH k b om om om) hn
   src := hs
   tkd := fun k hk => by
     rcases htk k hk with h9 | h9
     ·exact h.tkd k h9
     ·exact ⟨om, fun hm => by have := h.pile.lo k hm; omega⟩
   low := fun k a b c d => (hH k om b c d).trans (h.low k a b c d)
   lt := om
   b := by omega }
theorem RnS.add (h : RnS fs qa rows err ks kw kt lo m n0 acc ver els pk vw vt kb tels tk H0 H n) (hel : els.length + 1 ≤ m) {H2 : Heap} {n2 : Nat} {a : AV} {r : RowE} {js : List Nat} (hn : n ≤ n2) (hH : ∀ k, k < n → k ≠ n0 + 3 → k ≠ n0 + 4 → H2 k = H k)
   (hp : H2 (n0 + 3) = some (.arr 0 3 [.agg [.osl (n0 + 4) (ver + 1) 0 (els.length + 1), .nilsl, .bool false]])) (hl : H2 (n0 + 4) = some (.arr (ver + 1) 2 (els ++ [a]))) (ho : Own H2 a (ZO r) js) (hd : js.Nodup) (hj : ∀ k ∈ js, n ≤ k ∧ k < n2) :
   RnS fs qa rows err ks kw kt lo m n0 (acc ++ [r]) (ver + 1) (els ++ [a]) (pk ++ js) vw vt kb tels tk H0 H2 n2 := by
 obtain ⟨d1, d2, d3, d4, d5, d6, d7⟩ := h.src.d
 have hlt := h.lt
 have hb := h.b
 exact {
   hs := (hH _ om om om).trans h.hs
   hq := (hH _ om om om).trans h.hq
   hz := (hH _ om om om).trans h.hz
   hp := by rw [List.length_append]; exact hp
   hl := hl
   pile := by rw [List.map_append]; exact h.pile.add (fun k a b => hH k b om om) ho hd hj om hn
   src := h.src.on (fun k hk => by
     rcases hk with rfl | rfl | rfl | hk
     ·exact hH _ om om om
     ·exact hH _ om om om
     ·exact hH _ om om om
     ·have := h.tkd k hk; exact hH k (h.src.told.lo k hk).2 om om) hn
   tkd := fun k hk => ⟨(h.tkd k hk).1, fun hm => by
     rcases List.mem_append.1 hm with h9 | h9
     ·exact (h.tkd k hk).2 h9
     ·have := hj k h9; have := (h.src.told.lo k hk).2; omega⟩
   low := fun k a b c d => (hH k om om om).trans (h.low k a b c d)
   lt := om
   b := by rw [List.length_append]; simp only [List.length_cons, List.length_nil]; omega }
end
def RunK (rows : List RowE) (err : Int) (ks kw kt lo : Nat) (z : PgE × Nat × Int) (H : Heap) (n : Nat) (res : ARes) (H' : Heap) (n' : Nat) : Prop :=
 n ≤ n' ∧ (∀ k, k < n → k ≠ ks → k ≠ kw → k ≠ kt → H' k = H k) ∧ ∃ a pk vw vt kb tels tk, res = .val (.tup [a, .int .i64 z.2.2]) ∧ Own H' a (pgAV z.1) pk ∧ pk.Nodup ∧ (∀ k ∈ pk, n ≤ k ∧ k < n') ∧ SrcS rows err ks kw kt lo z.2.1 vw vt kb tels tk H' n' ∧ kb.length ≤ z.2.1 * 2097153 ∧ ∀ k ∈ tk, n ≤ k ∧ k ∉ pk
theorem own_pg {H : Heap} {a b : AV} {p : PgE} {ks js : List Nat} (h1 : Own H a (.sl 2 (p.rows.map ZO)) ks) (h2 : Own H b (bys p.token) js) : Own H (.agg [a, b, .bool p.done]) (pgAV p) (ks ++ js) := by
 have := Own.agg (.cons h1 (.cons h2 (.cons (.nk (a := .bool p.done) trivial) .nil)))
 simpa [pgAV] using this
theorem RunK.none {rows : List RowE} {err : Int} {ks kw kt lo m vw vt : Nat} {kb : List (Nat × List UInt8)} {tels : List AV} {tk : List Nat} {z : PgE × Nat × Int} {H H' : Heap} {n n' : Nat} {e : Int} (hz : z = (pgZ, m, e)) (hn : n ≤ n') (hH : ∀ k, k < n → k ≠ ks → k ≠ kw → k ≠ kt → H' k = H k)
   (hs : SrcS rows err ks kw kt lo m vw vt kb tels tk H' n') (hkb : kb.length ≤ m * 2097153) (htk : ∀ k ∈ tk, n ≤ k) : RunK rows err ks kw kt lo z H n (.val (.tup [.agg [.nilsl, .nilsl, .bool false], .int .i64 e])) H' n' := by
 subst hz
 exact ⟨hn, hH, _, [], vw, vt, kb, tels, tk, rfl, own_pg (p := pgZ) .nilsl .nilsl, List.nodup_nil, fun k hk => by simp at hk, hs, hkb, fun k hk => ⟨htk k hk, osi⟩⟩
theorem RnS.none {fs : List Fml} {qa : AV} {rows : List RowE} {err : Int} {ks kw kt lo m n0 : Nat} {acc : List RowE} {ver : Nat} {els : List AV} {pk : List Nat} {vw vt : Nat} {kb : List (Nat × List UInt8)} {tels : List AV} {tk : List Nat} {H0 H : Heap} {n : Nat} (h : RnS fs qa rows err ks kw kt lo m n0 acc ver els pk vw vt kb tels tk H0 H n)
   {z : PgE × Nat × Int} {e : Int} (hz : z = (pgZ, m, e)) {H2 : Heap} {n2 : Nat} (hn : n ≤ n2) (hH : ∀ k, k < n → k ≠ n0 + 2 → H2 k = H k) : RunK rows err ks kw kt lo z H0 n0 (.val (.tup [.agg [.nilsl, .nilsl, .bool false], .int .i64 e])) H2 n2 := by
 obtain ⟨d1, d2, d3, d4, d5, d6, d7⟩ := h.src.d
 have hlt := h.lt
 refine RunK.none hz om (fun k a b c d => (hH k om om).trans (h.low k a b c d)) (h.src.on (fun k hk => ?_) hn) h.b.2.1 (fun k hk => by have := h.tkd k hk; omega)
 rcases hk with rfl | rfl | rfl | hk
 ·exact hH _ om om
 ·exact hH _ om om
 ·exact hH _ om om
 ·have := h.tkd k hk; exact hH k (h.src.told.lo k hk).2 om
theorem RnS.done {fs : List Fml} {qa : AV} {rows : List RowE} {err : Int} {ks kw kt lo m n0 : Nat} {acc : List RowE} {ver : Nat} {els : List AV} {pk : List Nat} {vw vt : Nat} {kb : List (Nat × List UInt8)} {tels : List AV} {tk : List Nat} {H0 H : Heap} {n : Nat} (h : RnS fs qa rows err ks kw kt lo m n0 acc ver els pk vw vt kb tels tk H0 H n)
   {z : PgE × Nat × Int} {tok : List UInt8} {dn : Bool} (hz : z = (⟨acc, tok, dn⟩, m, 0)) {H2 : Heap} {n2 : Nat} {b : AV} {js : List Nat} (hn : n ≤ n2) (hH : ∀ k, k < n → k ≠ n0 + 2 → k ≠ n0 + 3 → H2 k = H k) (ho : Own H2 b (bys tok) js) (hd : js.Nodup) (hj : ∀ k ∈ js, n ≤ k ∧ k < n2) :
   RunK rows err ks kw kt lo z H0 n0 (.val (.tup [.agg [.osl (n0 + 4) ver 0 els.length, b, .bool dn], .int .i64 0])) H2 n2 := by
 subst hz
 obtain ⟨d1, d2, d3, d4, d5, d6, d7⟩ := h.src.d
 have hlt := h.lt
 have hp2 : Pile (n0 + 4 + 1) (els.take els.length) (acc.map ZO) pk H2 n := by rw [List.take_of_length_le (Nat.le_refl _)]; exact h.pile.on (fun k a b => hH k b om om) (Nat.le_refl _)
 obtain ⟨o1, o2, o3⟩ := hp2.list ((hH _ om om om).trans h.hl) (Nat.le_refl _) om
 refine ⟨om, fun k a b c d => (hH k om om om).trans (h.low k a b c d), _, _, vw, vt, kb, tels, tk, rfl, own_pg (p := ⟨acc, tok, dn⟩) o1 ho, List.nodup_append.2 ⟨o2, hd, fun a ha b hb e => by have := o3 a ha; have := hj b hb; omega⟩, fun k hk => ?_, h.src.on (fun k hk => ?_) hn, h.b.2.1, fun k hk => ⟨by have := h.tkd k hk; omega, fun hm => ?_⟩⟩
 ·rcases List.mem_append.1 hk with h9 | h9
  ·have := o3 k h9; omega
  ·have := hj k h9; omega
 ·rcases hk with rfl | rfl | rfl | hk
  ·exact hH _ om om om
  ·exact hH _ om om om
  ·exact hH _ om om om
  ·have := h.tkd k hk; exact hH k (h.src.told.lo k hk).2 om om
 ·have h8 := h.tkd k hk
  rcases List.mem_append.1 hm with h9 | h9
  ·rcases List.mem_cons.1 h9 with e | h9
   ·omega
   ·exact h8.2 h9
  ·have := hj k h9; have := (h.src.told.lo k hk).2; omega
end Go.Proofs.YtkmkbndcekklmaaGreatDoor
set_option maxRecDepth 10000
namespace Go.Proofs.YtkmkbndcekklmaaGreatDoor
open Go Go.Sx Go.Rt Go.Proofs Tryz
def UL (rows : List RowE) : Prop := rows.length ≤ 1048576 ∧ ∀ x ∈ rows, x.row.length ≤ 1099511627776 ∧ x.cells.length ≤ 1048576 ∧ ∀ c ∈ x.cells, c.qual.length ≤ 1099511627776 ∧ c.value.length ≤ 1099511627776
theorem Uk (l : Option (List UInt8)) (g : Bool) : strip g (LG l) = LG l := by cases l <;> cases g <;> rfl
theorem parse_ok {fs : List Fml} {q : QryE} (h : qcE fs q = 0) (h0 : 0 < q.whr.length) : ∃ x, YU fs q.whr = .ok x := by
 unfold qcE at h
 by_cases h1 : ZT fs ≠ 0
 ·rw [if_pos h1] at h; exact absurd h h1
 rw [if_neg h1] at h
 by_cases h2 : Kl fs.length q = false
 ·rw [if_pos h2] at h; exact absurd h odc
 rw [if_neg h2] at h
 by_cases h3 : 0 < q.whr.length ∧ (YT fs q.whr).2.1 ≠ 0
 ·rw [if_pos h3] at h; exact absurd h h3.2
 ·have h4 : (YT fs q.whr).2.1 = 0 := Classical.byContradiction fun e => h3 ⟨h0, e⟩
  unfold YT at h4
  rw [if_neg h1] at h4
  cases hp : YU fs q.whr with
  | ok x => exact ⟨x, rfl⟩
  | error a => rw [hp] at h4; simp at h4
theorem testQ_none {fs : List Fml} {q : QryE} (h : ¬ 0 < q.whr.length) : Vr fs q = none := by unfold Vr; rw [if_pos om]
theorem testQ_some {fs : List Fml} {q : QryE} (h : 0 < q.whr.length) {x : Tst × List UInt8} (hx : YU fs q.whr = .ok x) : Vr fs q = some x.1 := by unfold Vr; rw [if_neg om, hx]
def KQ : Option AObj → Nat
 | some (.arr _ _ [.agg [_, _, .int _ m, _, _]]) => m.toNat
 | _ => 0
theorem U4 {rows : List RowE} {err : Int} {m kw vw lw kt vt lt : Nat} : KQ (some (.arr 0 5 [VX rows err m kw vw lw kt vt lt])) = m := by simp [KQ, VX]
section
variable {rows : List RowE} {err : Int} {ks kw kt lo m : Nat} {kb : List (Nat × List UInt8)} {tk : List Nat} {H H' : Heap} {n n' : Nat}
theorem Jz.pan {p : AV} (h : Jz rows err ks kw kt lo m kb tk H n (.pan p) H' n') : False := by
 obtain ⟨_, _, h⟩ := h
 split at h
 ·obtain ⟨k1, k2, v2, js, vw, vt, kb2, tels, tk2, e, _⟩ := h; cases e
 ·obtain ⟨vw, vt, tels, e, _⟩ := h; cases e
theorem Jz.told {r : AV} (h : Jz rows err ks kw kt lo m kb tk H n (.val r) H' n') (hl : m < rows.length) : ∃ k1 k2 v2 js vw vt kb2 tels tk2, r = .tup [.agg [.osl k1 2 0 (rows.getD m default).row.length, .osl k2 v2 0 (rows.getD m default).cells.length], .bool true, .int .i64 0] ∧ Own H' (.agg [.osl k1 2 0 (rows.getD m default).row.length, .osl k2 v2 0 (rows.getD m default).cells.length]) (ZO (rows.getD m default)) js ∧ (∀ k ∈ js, n ≤ k ∧ k < n') ∧ SrcS rows err ks kw kt lo (m + 1) vw vt kb2 tels tk2 H' n' ∧ (∀ k ∈ tk2, k ∈ tk ∨ n ≤ k) ∧ tels.length ≤ m + 1 ∧ kb2.length ≤ kb.length + 1 + 2 * (rows.getD m default).cells.length := by
 obtain ⟨_, _, h⟩ := h
 rw [if_pos hl] at h
 obtain ⟨k1, k2, v2, js, vw, vt, kb2, tels, tk2, e, h⟩ := h
 cases e
 exact ⟨k1, k2, v2, js, vw, vt, kb2, tels, tk2, rfl, h⟩
theorem Jz.past {r : AV} (h : Jz rows err ks kw kt lo m kb tk H n (.val r) H' n') (hl : rows.length ≤ m) : ∃ vw vt tels, r = .tup [.agg [.nilsl, .nilsl], .bool false, .int .i64 err] ∧ SrcS rows err ks kw kt lo (m + 1) vw vt kb tels tk H' n' ∧ tels.length ≤ m + 1 := by
 obtain ⟨_, _, h⟩ := h
 rw [if_neg om] at h
 obtain ⟨vw, vt, tels, e, h⟩ := h
 cases e
 exact ⟨vw, vt, tels, rfl, h⟩
end
theorem Own.agg2 {H : Heap} {a b c d : AV} {ks : List Nat} (h : Own H (.agg [a, b]) (.agg [c, d]) ks) : ∃ k1 k2, ks = k1 ++ k2 ∧ Own H a c k1 ∧ Own H b d k2 := by
 cases h with
 | nk h => exact h.elim
 | agg h =>
   cases h with
   | cons h1 h2 =>
     cases h2 with
     | cons h3 h4 => cases h4 with | nil => exact ⟨_, _, osi, h1, h3⟩
theorem Own.osl_inv {H : Heap} {k v len e : Nat} {ys : List AV} {ks : List Nat} (h : Own H (.osl k v 0 len) (.sl e ys) ks) : ∃ els js, ks = k :: js ∧ H k = some (.arr v e els) ∧ len ≤ els.length ∧ OwnL H (els.take len) ys js := by
 cases h with
 | osl h1 h2 h3 => exact ⟨_, _, rfl, h1, h2, h3⟩
theorem own_cel_inv {H : Heap} {a : AV} {c : CelE} {ks : List Nat} (h : Own H a (Zv c) ks) : ∃ b d, a = .agg [.int .i64 c.fam, b, .int .i64 c.ts, d] ∧ b.sz = 1 ∧ d.sz = 1 ∧ b.memOK = true ∧ d.memOK = true ∧ b.isAgg = false ∧ d.isAgg = false := by
 generalize hb : Zv c = x at h
 cases h with
 | nk h => subst hb; exact h.elim
 | nilsl => cases hb
 | osl => cases hb
 | tup => cases hb
 | agg h =>
   cases hb
   cases h with
   | cons h1 h2 => cases h2 with | cons h3 h4 => cases h4 with | cons h5 h6 => cases h6 with | cons h7 h8 => cases h8 with | nil =>
     cases h1 with | nk _ => cases h5 with | nk _ =>
     exact ⟨_, _, rfl, h3.sl_sz.1, h7.sl_sz.1, h3.sl_sz.2.2, h7.sl_sz.2.2, h3.sl_sz.2.1, h7.sl_sz.2.1⟩
theorem own_row {H : Heap} {a b : AV} {r : RowE} {ks js : List Nat} (h1 : Own H a (bys r.row) ks) (h2 : Own H b (.sl 4 (r.cells.map Zv)) js) : Own H (.agg [a, b]) (ZO r) (ks ++ js) := by
 have := Own.agg (.cons h1 (.cons h2 .nil))
 simpa [ZO] using this
theorem drop_at2 {α : Type} [Inhabited α] (l : List α) {i : Nat} (h : i < l.length) : l.drop i = l.getD i default :: l.drop (i + 1) := XI l i h
theorem famsOut_take {nf : Nat} {l : List CelE} (h : ∀ j, j < l.length → bout (l.getD j default).fam 0 ((nf : Int) - 1) = false) : Qk nf l = false := by
 unfold Qk
 rw [List.any_eq_false]
 intro c hc
 obtain ⟨i, hi, he⟩ := List.mem_iff_getElem.1 hc
 have := h i hi
 rw [List.getD, List.getElem?_eq_getElem hi] at this
 simp only [Option.getD_some, he] at this
 simp [this]
theorem famsOut_at {nf : Nat} {l : List CelE} {i : Nat} (hi : i < l.length) (h : bout (l.getD i default).fam 0 ((nf : Int) - 1) = true) : Qk nf l = true := by
 unfold Qk
 rw [List.any_eq_true]
 exact ⟨_, Wv l hi, h⟩
theorem NC40.eqs {P Q : Prop} (g : Imp P Q := by (try simp only [go_sem, seval, hszs, hags, hmos, hszq, hagq, hmoq, x1, x2, x3, x4, x5, y1, y2, y3, y4, y5, y6, y7, f1, f2, f3, f4, f5, f6, b1, b2, b3, b6, b9, hrw, hE8, hce, c1, c2, c3, c4, c5, c6, g5, g6, hx1, hs, hql, z1, z3, hs2, z4, z6, hs3, z7, z9, Q7, Vs, Uk, YM, YN, YO, Ye, Nat.add_assoc, List.length_map, Int.toNat_natCast, Vz, qaX]); exact MI) : Imp P Q := g
theorem NC40.sd {P : Prop} (g : P := by first | (intro _ h9; rw [h9]; rfl) | exact ⟨rfl, by (simp [AV.sz, AV.szs, AV.memOK, z1, z3, z4, z6]; first | done | fail)⟩ | exact ⟨Nat.le_refl _, .inr trivial, om, om⟩ | fail) : P := g
set_option maxRecDepth 100000 in
set_option maxHeartbeats 12800000 in
open NC40 NZ in
theorem x_query_Run (fs : List Fml) (hfs : fs.length ≤ 1048576) (q : QryE) (hqf : q.fine) (clock : Int) (rows : List RowE) (err : Int) (hrw : UL rows) {kq : List Nat} {f t m0 p k : AV} (ks kw kt lo vw0 vt0 : Nat) {H : Heap} {n : Nat} (hG : GOK 1 1 H n)
   (hQ : QL kq H q f t m0 p k) (hkq : ∀ j ∈ kq, j < n ∧ j ≠ ks ∧ j ≠ kw ∧ j ≠ kt) (hS : SrcS rows err ks kw kt lo 0 vw0 vt0 [] [] [] H n) :
   Zi prog 18 [Zg fs, qaX q f t m0 p k, .int .i64 clock, .iface 52 (.loc ks 0 0 0 [])] H n (RunK rows err ks kw kt lo (runE fs q clock (some (rows, err))) H n) := by
 obtain ⟨hrl, hrb⟩ := hrw
 obtain ⟨d1, d2, d3, d4, d5, d6, d7⟩ := hS.d
 have hgk : 1 ≠ ks ∧ 1 ≠ kw ∧ 1 ≠ kt ∨ (1 : Nat) = 1 := by
   by_cases hne : (1 : Nat) = 1
   ·exact .inr hne
   ·left
    have V := hG.kindsC hne
    exact kbV
 have hgt : 1 ≠ ks ∧ 1 ≠ kw ∧ 1 ≠ kt := by
   have V := hG.table
   exact kbV
 have hGc : ∀ (Hc : Heap) (nc : Nat), (∀ k, k < n → k ≠ ks → k ≠ kw → k ≠ kt → Hc k = H k) → n ≤ nc → GOK 1 1 Hc nc := fun Hc nc hc hn => hG.at2 (by
   rcases hgk with h | h
   ·exact hc _ hG.gek h.1 h.2.1 h.2.2
   ·rw [h]; exact hc _ hG.get hgt.1 hgt.2.1 hgt.2.2) (hc _ hG.get hgt.1 hgt.2.1 hgt.2.2) hn
 have hQc : ∀ (Hc : Heap), (∀ k, k < n → k ≠ ks → k ≠ kw → k ≠ kt → Hc k = H k) → QL kq Hc q f t m0 p k := fun Hc hc => hQ.on fun j hj => by have := hkq j hj; exact hc j this.1 this.2.1 this.2.2.1 this.2.2.2
 have hszs : (Zg fs).sz = 1 := rfl
 have hags : (Zg fs).isAgg = true := rfl
 have hmos : (Zg fs).memOK = true := rfl
 have hszq : (qaX q f t m0 p k).sz = 10 := hQ.sz
 have hagq : (qaX q f t m0 p k).isAgg = true := rfl
 have hmoq : (qaX q f t m0 p k).memOK = true := rfl
 obtain ⟨z, hz⟩ : ∃ z, z = runE fs q clock (some (rows, err)) := ⟨_, rfl⟩
 rw [← hz]
 unfold runE at hz
 have x1 := hQ.f.sz
 have x2 := hQ.t.sz
 have x3 := hQ.m.sz
 have x4 := hQ.p.sz
 have x5 := hQ.k.sz
 have y1 := hQ.f.st
 have y2 := hQ.t.st
 have y3 := hQ.t.len
 have y4 := hQ.f.ag
 have y5 := hQ.t.ag
 have y6 := hQ.f.mo
 have y7 := hQ.t.mo
 have f1 : (n = n + 1) = False := osi
 have f2 : (n + 1 = n + 2) = False := osi
 have f3 : (n + 1 = n) = False := osi
 have f4 : (n = n + 2) = False := osi
 have f5 : (n + 2 = n + 1) = False := osi
 have f6 : (n + 2 = n) = False := osi
 have b1 := d7
 have b2 := d7
 have b3 := d7
 have b6 := d7
 have b9 := d7
 have hrw := d7
 have hE8 := d7
 have hce := d7
 have c1 := d7
 have c2 := d7
 have c3 := d7
 have c4 := d7
 have c5 := d7
 have c6 := d7
 have g5 := d7
 have g6 := d7
 have hx1 := d7
 have hs := d7
 have hql := d7
 have z1 := d7
 have z3 := d7
 have hs2 := d7
 have z4 := d7
 have z6 := d7
 have hs3 := d7
 have z7 := d7
 have z9 := d7
 refine fw func18 ntmps18 results18 ?_
 refine rg zs [2, 3, 4, 5, 8] ?_
 refine Zb fun K1 hK1 => ?_
 refine rk zs [2, 3, 4, 5, 8, 10] fun K V => ?_
 refine ck func34 ((l_query_Check fs hfs hqf (hGc _ _ (fun k h1 h2 h3 h4 => oh) om) (hQc _ (fun k h1 h2 h3 h4 => oh)))) ?_
 apply V; clear V K
 refine rg zs [2, 3, 4, 5, 8, 10, 30] ?_
 refine Za ?_ ?_ <;> intro hb
 ·have hc0 : qcE fs q ≠ 0 := osb
  rw [if_pos hc0] at hz
  refine rg zs [8, 9] ?_
  refine ar ?_
  first
  | (refine RunK.none hz om (fun k h1 h2 h3 h4 => ?_) (hS.on (fun k hk => ?_) om) osi (fun k hk => by cases hk)
     ·exact oh
     ·have h9 : k < n := by (rcases hk with rfl | rfl | rfl | hk; omega; omega; omega; cases hk)
      (try simp only [MG]); (repeat first | rw [if_pos rfl] | rw [if_pos trivial] | rw [if_neg om]))
 have hc0 : qcE fs q = 0 := osb
 rw [if_neg (by simp [hc0])] at hz
 refine ak ?_
 apply hK1
 refine rk zs [3, 4, 5, 8, 11, 12] fun K V => ?_
 refine ck func36 ((l_query_At hqf clock (hGc _ _ (fun k h1 h2 h3 h4 => oh) om) (hQc _ (fun k h1 h2 h3 h4 => oh)))) ?_
 apply V; clear V K
 refine Zb fun K2 hK2 => ?_
 refine rg zs [3, 4, 5, 8, 11, 44] ?_
 refine Za ?_ ?_ <;> intro hb
 ·have ha0 : (atE q clock).2 ≠ 0 := osb
  rw [if_pos ha0] at hz
  refine rg zs [8, 9] ?_
  refine ar ?_
  first
  | (refine RunK.none hz om (fun k h1 h2 h3 h4 => ?_) (hS.on (fun k hk => ?_) om) osi (fun k hk => by cases hk)
     ·exact oh
     ·have h9 : k < n := by (rcases hk with rfl | rfl | rfl | hk; omega; omega; omega; cases hk)
      (try simp only [MG]); (repeat first | rw [if_pos rfl] | rw [if_pos trivial] | rw [if_neg om]))
 have ha0 : ¬ (atE q clock).2 ≠ 0 := osb
 rw [if_neg ha0] at hz
 refine ak ?_
 apply hK2
 refine rg zs [3, 4, 5, 8, 11, 13] ?_
 refine Ym (fun H' n' => H' n = some (.arr 0 1 [Zg fs]) ∧ H' (n + 1) = some (.arr 0 10 [qaX q f t m0 p k]) ∧ H' (n + 2) = some (.arr 0 3 [.agg [.nilsl, .nilsl, .bool false]]) ∧ (∀ k, k < n → H' k = H k) ∧ n' = n + 3) ⟨ohr, ohr, oh, fun k hk => oh, rfl⟩ fun Hb nb ⟨b1, b2, b3, b4, b5⟩ => ?_
 subst b5
 refine Yb [3, 4, 5, 8, 11, 13] (fun T' H' n' => T' = tl [(3, .iface 52 (.loc ks 0 0 0 [])), (4, .loc n 0 0 0 []), (5, .loc (n + 1) 0 0 0 []), (8, .loc (n + 2) 0 0 0 []), (11, .int .i64 (atE q clock).1), (13, VA (Vr fs q))] ∧ H' = Hb ∧ n' = n + 3) ?_ ?_
 ·refine rg zs [3, 4, 5, 8, 11, 13, 49] ?_
  refine Za ?_ ?_ <;> intro hb
  ·have hw0 : 0 < q.whr.length := ott
   obtain ⟨px, hpx⟩ := parse_ok hc0 hw0
   have hT := testQ_some hw0 hpx
   refine rc1 zs [3, 4, 5, 8, 11, 13] func51 ((hpx ▸ VN fs hfs q.whr _ _)) ?_
   refine ns ?_
   rw [hT]; first | done | rfl | exact ⟨rfl, rfl, rfl⟩ | exact ⟨rfl, rfl⟩
  have hT := testQ_none (fs := fs) (q := q) (fun h => otf)
  refine ak ?_
  refine ns ?_
  rw [hT]; first | done | rfl | exact ⟨rfl, rfl, rfl⟩ | exact ⟨rfl, rfl⟩
 rintro T9 H9 n9 ⟨rfl, rfl, rfl⟩
 refine rk zs [3, 4, 5, 8, 11, 13, 14, 15] fun K V => ?_
 refine ck func24 ((Qv hqf (hGc _ _ (fun k h1 _ _ _ => b4 k h1) om) (hQc _ (fun k h1 _ _ _ => b4 k h1)))) ?_
 apply V; clear V K
 refine rg zs [3, 4, 5, 8, 11, 13, 14, 15, 17] ?_
 refine rg zs [3, 4, 5, 8, 11, 13, 14, 15, 17, 18] ?_
 refine ZJ ?_
 refine Yu (n + 3) 2 (ver := 0) (e := 3) (els := [.agg [.nilsl, .nilsl, .bool false]]) (els' := [.agg [.osl (n + 4) 0 0 0, .nilsl, .bool false]]) oh ⟨Adp.agg ⟨Adp.nilsl _, .refl _ _, .refl _ _, trivial⟩, trivial⟩ ?_
 refine Ym (fun H' n' => RnS fs (qaX q f t m0 p k) rows err ks kw kt lo 0 n [] 0 [] [] vw0 vt0 [] [] [] H H' n') ?_ fun H6 n6 hR => ?_
 ·refine ⟨?_, ?_, ?_, ?_, ?_, Pile.nil _ _ _, hS.on (fun k hk => ?_) om, fun k hk => (by cases hk), fun k h1 h2 h3 h4 => ?_, om, osi⟩
  ·refine ohx ?_; exact b1
  ·refine ohx ?_; exact b2
  ·refine ohx ?_; exact b3
  ·refine ohx ?_; rfl
  ·exact oh
  ·have h9 : k < n := by (rcases hk with rfl | rfl | rfl | hk; omega; omega; omega; cases hk)
   refine ohx ?_; exact b4 k h9
  ·refine ohx ?_; exact b4 k h1
 refine Zo (fun T' H' n' => ∃ (m : Nat) (last : Option (List UInt8)) (acc : List RowE) (ver : Nat) (els : List AV) (pk : List Nat) (vw vt : Nat) (kb : List (Nat × List UInt8)) (tels : List AV) (tk : List Nat), m ≤ rows.length ∧ T' = tl [(3, .iface 52 (.loc ks 0 0 0 [])), (4, .loc n 0 0 0 []), (5, .loc (n + 1) 0 0 0 []), (8, .loc (n + 2) 0 0 0 []), (11, .int .i64 (atE q clock).1), (13, VA (Vr fs q)), (14, bys (YI q).1), (15, .bool (YI q).2.1), (17, .loc (n + 3) 0 0 0 []), (18, LG last)] ∧ RnS fs (qaX q f t m0 p k) rows err ks kw kt lo m n acc ver els pk vw vt kb tels tk H H' n' ∧ (∀ l, last = some l → l ≠ []) ∧ runG fs.length q (Vr fs q) (tokB q (atE q clock).1) (YI q).1 (YI q).2.1 err m last acc (rows.drop m) = z) (fun _ H' _ => rows.length - KQ (H' ks)) ?_ ?_
 ·exact ⟨0, none, [], 0, [], [], vw0, vt0, [], [], [], Nat.zero_le _, rfl, hR, fun l h => (by cases h), by rw [hz, List.drop_zero]⟩
 rintro T1 H1 n1 ⟨m, last, acc, ver, els, pk, vw, vt, kb, tels, tk, hm, rfl, hR, hlast, hzz⟩
 have hb8 := hR.b
 have hlt8 := hR.lt
 have hask : KQ (H1 ks) = m := by rw [hR.src.ho]; exact U4
 obtain ⟨Hh, hHh⟩ : ∃ h, h = H1 := ⟨_, rfl⟩
 subst hHh
 obtain ⟨nh, hnh⟩ : ∃ h, h = n1 := ⟨_, rfl⟩
 subst hnh
 refine ZJ ?_
 rcases Nat.lt_or_ge m rows.length with hlt | hge
 ·refine Ku zs [3, 4, 5, 8, 11, 13, 14, 15, 17, 18, 19, 20, 21] 1 rfl (by first | trivial | (show _ < _; decide)) fun K V => ?_
  refine nz ?_
  refine nz ?_
  refine callI_use Ud func187 rfl rfl (QR rows err hrl hrb ks kw kt lo m vw vt kb tels tk _ _ hR.src om om om) ?_ ?_
  ·intro p H' n' hc; exact hc.pan.elim
  intro rr H2 n2 hc
  have hn2 := hc.1
  first
  | (obtain ⟨k1, k2, v2, js, vw2, vt2, kb2, tels2, tk2, rfl, ho, hjs, hs2, htk2, hb1, hb2⟩ := hc.told hlt
     have hR2 := hR.next hc.1 hc.2.1 hs2 htk2 hb1 (by have := (hrb _ (Wv rows hlt)).2.1; omega)
     have hdr := drop_at2 rows hlt
     have hrx := hrb _ (Wv rows hlt)
     generalize rows.getD m default = x at *)
  refine nz ?_
  apply V; clear V K
  refine bk fun K3 hK3 => ?_
  first
  | (refine Ym (fun H' n' => RnS fs (qaX q f t m0 p k) rows err ks kw kt lo (m + 1) n acc ver els pk vw2 vt2 kb2 tels2 tk2 H H' n' ∧ H' n2 = some (.arr 0 2 [.agg [.osl k1 2 0 x.row.length, .osl k2 v2 0 x.cells.length]]) ∧ Own H' (.agg [.osl k1 2 0 x.row.length, .osl k2 v2 0 x.cells.length]) (ZO x) js ∧ n' = n2 + 1) ⟨hR2.on (fun k hk => ME _ _ om) om, MF _ _ _, ho.frame (fun k hk => ME _ _ (by have := hjs k hk; omega)), rfl⟩ fun H7 n7 ⟨hR7, hrw, ho7, hn7⟩ => ?_
     rw [hdr] at hzz; unfold runG at hzz)
  have b1 := hR7.hs
  have b2 := hR7.hq
  have b3 := hR7.hz
  have b6 := hR7.hp
  have b9 := hR7.hl
  refine rg zs [3, 4, 5, 8, 11, 13, 14, 15, 17, 18, 19, 20, 21, 71] ?_
  refine Za ?_ ?_ <;> intro hb
  ·exact absurd hb osi
  refine rg zs [3, 4, 5, 8, 11, 13, 14, 15, 17, 18, 19, 76] ?_
  refine Za ?_ ?_ <;> intro hb
  ·exact absurd hb osi
  obtain ⟨j1, j2, hjj, o1, o2⟩ := Own.agg2 ho7
  obtain ⟨els2, js3, hj3, hE, hl2, hL2⟩ := Own.osl_inv o2
  have hj1 : ∀ j ∈ j1, j < n7 := fun j hj => by have := hjs j (by rw [hjj]; simp [hj]); omega
  have hj2 : ∀ j ∈ j2, j < n7 := fun j hj => by have := hjs j (by rw [hjj]; simp [hj]); omega
  have hk2 : k2 < n7 := hj2 k2 (by rw [hj3]; simp)
  have hra := o1.lsl
  have hca := o2.lsl
  have hQ7 := hQc H7 hR7.low
  refine rc zs [3, 4, 5, 8, 11, 13, 14, 15, 17, 19, 81] func52 ((KD hQ7 hra last hlast (YI q).1 (YI q).2.1 _)) ?_
  refine Za ?_ ?_ <;> intro hb
  ·have hfo : Y2 q x.row last (YI q).1 (YI q).2.1 = false := osb
   rw [if_pos hfo] at hzz
   refine rg zs [8, 9] ?_
   refine ar ?_
   refine hR7.none hzz.symm om (fun k h1 h2 => ?_); exact oh
  have hfo : Y2 q x.row last (YI q).1 (YI q).2.1 = true := osb
  rw [if_neg (by simp [hfo])] at hzz
  have h256 : x.row.length ≠ 0 ∧ x.row.length ≤ 256 := by unfold Y2 at hfo; by_cases h9 : x.row.length = 0 ∨ 256 < x.row.length; (rw [if_pos h9] at hfo; cases hfo); omega
  refine ak ?_
  apply hK3
  refine Zb fun K4 hK4 => ?_
  refine rg zs [3, 4, 5, 8, 11, 13, 14, 15, 17, 19, 92, 93, 94] ?_
  refine ZJ ?_
  refine Zo (fun T' H' n' => ∃ i : Nat, i ≤ x.cells.length ∧ (∀ j, j < i → bout (x.cells.getD j default).fam 0 ((fs.length : Int) - 1) = false) ∧ T' = tl [(3, .iface 52 (.loc ks 0 0 0 [])), (4, .loc n 0 0 0 []), (5, .loc (n + 1) 0 0 0 []), (8, .loc (n + 2) 0 0 0 []), (11, .int .i64 (atE q clock).1), (13, VA (Vr fs q)), (14, bys (YI q).1), (15, .bool (YI q).2.1), (17, .loc (n + 3) 0 0 0 []), (19, .loc n2 0 0 0 []), (92, .osl k2 v2 0 x.cells.length), (93, .int .i64 x.cells.length), (94, .int .i64 i)] ∧ (∀ k, k < n7 → H' k = H7 k) ∧ n7 ≤ n') (fun T' _ _ => x.cells.length - iv (T' 94)) ?_ ?_
  ·exact ⟨0, Nat.zero_le _, fun j h => om, rfl, fun _ _ => rfl, Nat.le_refl _⟩
  rintro T1 H1 n1 ⟨i, hi, hfa, rfl, hH8, hn8⟩
  have hR8 := hR7.on hH8 hn8
  have b1 := hR8.hs
  have b2 := hR8.hq
  have b3 := hR8.hz
  have b6 := hR8.hp
  have hrw := (hH8 n2 om).trans hrw
  have hE8 := (hH8 k2 hk2).trans hE
  refine Zh zs [3, 4, 5, 8, 11, 13, 14, 15, 17, 19, 92, 93, 94, 95] fun K V => ?_
  try simp only [go_sem, seval, hszs, hags, hmos, hszq, hagq, hmoq, x1, x2, x3, x4, x5, y1, y2, y3, y4, y5, y6, y7, f1, f2, f3, f4, f5, f6, b1, b2, b3, b6, b9, hrw, hE8, hce, c1, c2, c3, c4, c5, c6, g5, g6, hx1, hs, hql, z1, z3, hs2, z4, z6, hs3, z7, z9, Q7, Vs, Uk, YM, YN, YO, Ye, Nat.add_assoc, List.length_map, Int.toNat_natCast, Vz, qaX, Zg, YA]
  repeat refine peel ?_
  apply V; clear V K
  refine Zb fun K5 hK5 => ?_
  refine Za ?_ ?_ <;> intro hb
  ·have hci : i < x.cells.length := ott
   obtain ⟨_, _, _, _, _, hcn, _⟩ := OwnL.nth hL2 (i := i) (by rw [List.length_take]; omega)
   have hnt : nth (els2.take x.cells.length) i = nth els2 i := by simp [nth, List.getD, hci]
   rw [hnt, ZP Zv x.cells i hci] at hcn
   obtain ⟨cb, cd, hce, c1, c2, c3, c4, c5, c6⟩ := own_cel_inv hcn
   have g5 : (n = n1) = False := oz
   have g6 : (n + 2 = n1) = False := oz
   have hx1 : IntKind.i64.wrap ((i : Int) + 1) = ((i + 1 : Nat) : Int) := w1 om
   refine ak ?_
   apply hK5
   refine bk fun K6 hK6 => ?_
   refine rg zs [3, 4, 5, 8, 11, 13, 14, 15, 17, 19, 23, 92, 93, 94] ?_
   refine Zh zs [3, 4, 5, 8, 11, 13, 14, 15, 17, 19, 92, 93, 94, 108] fun K V => ?_
   try simp only [go_sem, seval, hszs, hags, hmos, hszq, hagq, hmoq, x1, x2, x3, x4, x5, y1, y2, y3, y4, y5, y6, y7, f1, f2, f3, f4, f5, f6, b1, b2, b3, b6, b9, hrw, hE8, hce, c1, c2, c3, c4, c5, c6, g5, g6, hx1, hs, hql, z1, z3, hs2, z4, z6, hs3, z7, z9, Q7, Vs, Uk, YM, YN, YO, Ye, Nat.add_assoc, List.length_map, Int.toNat_natCast, Vz, qaX, hszs, hags, hmos, g5, b1, Zg, List.length_map, c1, c2, c3, c4, c5, c6]
   repeat refine peel ?_
   apply V; clear V K
   refine Za ?_ ?_ <;> intro hb
   ·have hfo1 : Qk fs.length x.cells = true := famsOut_at hci (by unfold bout; have h9 := hb; simp at h9 ⊢; omega)
    rw [if_pos hfo1] at hzz
    refine rg zs [8, 9] ?_
    refine ar ?_
    refine hR8.none hzz.symm om (fun k h1 h2 => ?_); exact oh
   have hfo1 : bout (x.cells.getD i default).fam 0 ((fs.length : Int) - 1) = false := by unfold bout; have h9 := hb; simp at h9 ⊢; omega
   refine ak ?_
   apply hK6
   refine rg1 zs [3, 4, 5, 8, 11, 13, 14, 15, 17, 19, 92, 93, 94] ?_
   exact ⟨⟨i + 1, om, fun j hj => (by rcases Nat.lt_or_ge j i with h | h; exact hfa j h; rw [show j = i by omega]; exact hfo1), rfl, fun k hk => ohx (hH8 k hk), by omega⟩, by omega⟩
  have hci : i = x.cells.length := otf
  subst hci
  have hfn := famsOut_take hfa
  rw [if_neg (by rw [hfn]; simp)] at hzz
  have hQ8 := hQc H1 hR8.low
  have hra8 := hra.on fun j hj => hH8 j (hj1 j hj)
  have hca8 := hca.on fun j hj => hH8 j (hj2 j hj)
  refine ax ?_
  apply hK4
  refine rk zs [3, 4, 5, 8, 11, 13, 14, 15, 17, 18, 19] fun K V => ?_
  refine ck func53 ((OAns.fin (LD hra8 om _))) ?_
  apply V; clear V K
  refine rk zs [3, 4, 5, 8, 11, 13, 14, 15, 17, 18, 19, 24] fun K V => ?_
  refine cg func54 (fun _ => (Uy hra8 hQ8.t _)) ?_
  refine cg func54 (fun _ => (Uy hra8 hQ8.f _)) ?_
  apply V; clear V K
  refine Zb fun K7 hK7 => ?_
  refine rg zs [3, 4, 5, 8, 11, 13, 14, 15, 17, 18, 19, 143] ?_
  refine Za ?_ ?_ <;> intro hb
  ·have hbe : Ju q x.row = true := by unfold Ju; have h9 := hb; simp at h9 ⊢; grind
   rw [if_pos hbe] at hzz
   refine rg zs [8, 17] ?_
   refine rg zs [8, 9] ?_
   refine ar ?_
   refine hR8.done (tok := []) (b := .nilsl) (js := []) hzz.symm om (fun k h1 h2 h3 => ?_) .nilsl List.nodup_nil (fun k hk => by cases hk); exact oh
  have hbe : Ju q x.row = false := by unfold Ju; have h9 := hb; simp at h9 ⊢; grind
  rw [if_neg (by simp [hbe])] at hzz
  refine ak ?_
  apply hK7
  refine rk zs [3, 4, 5, 8, 11, 13, 14, 15, 17, 18, 25] fun K V => ?_
  refine cK func55 (KC hQ8 hqf.fams (Vr fs q) hca8 hrx.2.1 hrx.2.2 _) ?_ ?_
  ·intro p H' n' hc; exact hc.pan.elim
  intro rr H9 n9 hc
  obtain ⟨cj, hM⟩ := hc.got
  have hn9 := hM.nn
  have hs := fun g => hM.own.strip g
  have hql := hM.own.qLen prog 94
  rw [List.length_map] at hql
  obtain ⟨z1, z2, z3⟩ := hM.own.sl_sz
  have hR9 := hR8.on hM.low hM.nn
  refine nz ?_
  apply V; clear V K
  refine Zb fun K8 hK8 => ?_
  refine rg zs [3, 4, 5, 8, 11, 13, 14, 15, 17, 18, 25, 153] ?_
  refine Za ?_ ?_ <;> intro hb
  ·have hch : YH q (Vr fs q) x.cells = [] := osb
   rw [if_pos hch] at hzz
   refine Xb [3, 4, 5, 8, 11, 13, 14, 15, 17, 18] ?_
   simp only [go_sem, seval]
   refine ax ?_
   first
   | (refine ⟨⟨m + 1, some x.row, acc, ver, els, pk, vw2, vt2, kb2, tels2, tk2, om, rfl, hR9, fun l hl => ?_, hzz⟩, ?_⟩
      ·cases hl; intro e; exact h256.1 (by rw [e]; rfl)
      ·rw [hask, hR9.src.ho, U4]; omega)
  have hch : ¬ YH q (Vr fs q) x.cells = [] := osb
  rw [if_neg hch] at hzz
  refine ak ?_
  apply hK8
  have b6 := hR9.hp
  refine dx zs [3, 4, 5, 8, 11, 13, 14, 15, 17, 18] [.q, .q, .m, .w [0, 1], .m, .q, .q, .w [], .q, .w []] [0, 1, 2, 4, 3, 5, 6, 7, 8, 9] [0, 1, 2, 4, 3, 5, 6, 7, 8, 9] fun K V => ?_
  refine cK func53 (YJ x.row om _ _) ?_ ?_
  ·intro p H' n' hc; exact hc.pan.elim
  intro r2 H10 n10 hc
  obtain ⟨dj, hM2⟩ := hc.got
  have hs2 := fun g => hM2.own.strip g
  obtain ⟨z4, z5, z6⟩ := hM2.own.sl_sz
  have hR10 := hR9.on hM2.low hM2.nn
  have b6 := hR10.hp
  have b9 := hR10.hl
  refine nz ?_
  apply V; clear V K
  rw [List.take_of_length_le (Nat.le_refl els.length)]
  have hn10 := hM2.nn
  have hlen : (els ++ [AV.agg [r2, rr]]).length = els.length + 1 := osi
  have hal : acc.length = els.length := by have := hR.pile.own.len; simpa using this.symm
  refine Ym (fun H' n' => RnS fs (qaX q f t m0 p k) rows err ks kw kt lo (m + 1) n (acc ++ [⟨x.row, YH q (Vr fs q) x.cells⟩]) (ver + 1) (els ++ [.agg [r2, rr]]) (pk ++ (dj ++ cj)) vw2 vt2 kb2 tels2 tk2 H H' n') (hR8.add om om (fun k h1 h2 h3 => ?_) (MF _ _ _) ?_ (own_row (r := ⟨x.row, YH q (Vr fs q) x.cells⟩) (hM2.own.frame fun k hk => ?_) (hM.own.frame fun k hk => ?_)) (List.nodup_append.2 ⟨hM2.nd, hM.nd, fun a ha b hb e => by have := hM2.lo a ha; have := hM.lo b hb; omega⟩) (fun k hk => ?_)) fun H11 n11 hR11 => ?_
  ·refine ohx ?_; rw [hM2.low k om, hM.low k om]
  ·exact oh
  ·have := hM2.lo k hk; (try simp only [MG]); (repeat first | rw [if_pos rfl] | rw [if_pos trivial] | rw [if_neg om])
  ·have := hM.lo k hk; refine ohx ?_; exact hM2.low k om
  ·rcases List.mem_append.1 hk with h | h; (have := hM2.lo k h; omega); (have := hM.lo k h; omega)
  have b2 := hR11.hq
  have b3 := hR11.hz
  have b6 := hR11.hp
  rw [hlen] at b6
  refine rg zs [3, 4, 5, 8, 11, 13, 14, 15, 17, 18, 168] ?_
  refine Za ?_ ?_ <;> intro hb
  ·have hrn : ((acc.length + 1 : Nat) : Int) = q.rows := by rw [hal]; simpa using hb
   rw [if_pos hrn] at hzz
   refine rk zs [8, 17] fun K V => ?_
   refine cK func56 (LB hqf (hGc H11 n11 hR11.low (by have := hR11.lt; omega)) (hQc H11 hR11.low) (atE q clock).1 x.row h256.2) ?_ ?_
   ·intro p H' n' hc; exact hc.pan.elim
   intro r3 H12 n12 hc
   obtain ⟨ej, hM3⟩ := hc.got
   have hs3 := fun g => hM3.own.strip g
   obtain ⟨z7, z8, z9⟩ := hM3.own.sl_sz
   have hR12 := hR11.on hM3.low hM3.nn
   have hn12 := hM3.nn
   have hlt11 := hR11.lt
   have b3 := hR12.hz
   have b6 := hR12.hp
   rw [hlen] at b6
   refine nz ?_
   apply V; clear V K
   refine rg zs [8, 9] ?_
   refine ar ?_
   first
   | (rw [← hlen]
      refine hR11.done (tok := tokB q (atE q clock).1 x.row) hzz.symm om (fun k h1 h2 h3 => ?_) (hM3.own.frame fun k hk => ?_) hM3.nd (fun k hk => hM3.lo k hk)
      ·refine ohx ?_; exact hM3.low k om
      ·have := hM3.lo k hk; exact oh)
  have hrn : ¬ ((acc.length + 1 : Nat) : Int) = q.rows := by rw [hal]; simpa using hb
  rw [if_neg hrn] at hzz
  refine Xb [3, 4, 5, 8, 11, 13, 14, 15, 17, 18] ?_
  simp only [go_sem, seval]
  refine ak ?_
  first
  | (refine ⟨⟨m + 1, some x.row, _, _, _, _, vw2, vt2, kb2, tels2, tk2, om, rfl, hR11, fun l hl => ?_, hzz⟩, ?_⟩
     ·cases hl; intro e; exact h256.1 (by rw [e]; rfl)
     ·rw [hask, hR11.src.ho, U4]; omega)
 ·refine Ku zs [3, 4, 5, 8, 11, 13, 14, 15, 17, 18, 19, 20, 21] 1 rfl (by first | trivial | (show _ < _; decide)) fun K V => ?_
  refine nz ?_
  refine nz ?_
  refine callI_use Ud func187 rfl rfl (QR rows err hrl hrb ks kw kt lo m vw vt kb tels tk _ _ hR.src om om om) ?_ ?_
  ·intro p H' n' hc; exact hc.pan.elim
  intro rr H2 n2 hc
  have hn2 := hc.1
  first
  | (obtain ⟨vw2, vt2, tels2, rfl, hs2, hb1⟩ := hc.past hge
     have hR2 := hR.next hc.1 hc.2.1 hs2 (fun k hk => .inl hk) hb1 om)
  refine nz ?_
  apply V; clear V K
  refine bk fun K3 hK3 => ?_
  first
  | (refine Ym (fun H' n' => RnS fs (qaX q f t m0 p k) rows err ks kw kt lo (m + 1) n acc ver els pk vw2 vt2 kb tels2 tk H H' n' ∧ n' = n2 + 1) ⟨hR2.on (fun k hk => ME _ _ om) om, rfl⟩ fun H7 n7 ⟨hR7, hn7⟩ => ?_
     rw [List.drop_eq_nil_of_le hge] at hzz; unfold runG at hzz)
  have b1 := hR7.hs
  have b2 := hR7.hq
  have b3 := hR7.hz
  have b6 := hR7.hp
  have b9 := hR7.hl
  refine rg zs [3, 4, 5, 8, 11, 13, 14, 15, 17, 18, 19, 20, 21, 71] ?_
  refine Za ?_ ?_ <;> intro hb
  ·have he0 : err ≠ 0 := osb
   rw [if_pos he0] at hzz
   refine rg zs [8, 9] ?_
   refine ar ?_
   refine hR7.none hzz.symm om (fun k h1 h2 => ?_); exact oh
  have he0 : ¬ err ≠ 0 := osb
  rw [if_neg he0] at hzz
  refine rg zs [3, 4, 5, 8, 11, 13, 14, 15, 17, 18, 19, 76] ?_
  refine Za ?_ ?_ <;> intro hb
  ·refine rg zs [8, 17] ?_
   refine rg zs [8, 9] ?_
   refine ar ?_
   refine hR7.done (tok := []) (b := .nilsl) (js := []) hzz.symm om (fun k h1 h2 h3 => ?_) .nilsl List.nodup_nil (fun k hk => by cases hk); exact oh
  exact absurd hb osi
end Go.Proofs.YtkmkbndcekklmaaGreatDoor
set_option maxRecDepth 10000
namespace Go.Proofs.YtkmkbndcekklmaaGreatDoor
open Go Go.Sx Go.Rt Go.Proofs Go.ChangeShapes Go.WideShapes Go.ChangeAt Go.RowKit Tryz
section
variable {H : Type} {enc : TypeId × Value → H} {W : World}
end
def tabs : List (String × DataW Unit) := [("strata/wire.table", Rows.laid_strata_wire_table)]
theorem var_cells {W : World} {nm : String} {g : Nat} {cs : Array Value} (hg : (prog).globalNamed nm = some g) (h : W.var? prog nm = some cs) : ∃ ty fr, W.heap[g]? = some (.cells cs ty fr) := by
 unfold World.var? at h
 rw [hg] at h
 simp only [Option.bind_some] at h
 split at h
 ·rename_i c ty fr hb; simp only [Option.some.injEq] at h; subst h; exact ⟨ty, fr, hb⟩
 ·simp at h
theorem tables {W : World} (h : laidMetH prog tabs W) : ∃ (aT : Array Value) (tT : TypeId) (fT : Nat × Nat), W.heap[1]? = some (.cells aT tT fT) ∧ At aT 0 (UE.map fun n => .int .u32 n) := by
 have h : laidMet prog tabs W := h
 obtain ⟨ps, ⟨g, t, cs, fuel, p, q, hg, ht, hv, hd, _, _⟩, _⟩ := h
 have e1 : (prog).globalNamed "strata/wire.table" = some 1 := by kernel_rfl
 have e3 : ((prog).globals[1]?).map (·.type) = some 197 := by kernel_rfl
 obtain rfl := Option.some.inj (hg.symm.trans e1)
 obtain rfl := Option.some.inj (ht.symm.trans e3)
 obtain ⟨tT, fT, hT⟩ := var_cells e1 hv
 refine ⟨cs, tT, fT, hT, ?_⟩
 have hc : cs.toList = UE.map fun z => Value.int .u32 z := Lib.cells_of_tab (zs := UE) underlying197 underlying163 (by kernel_rfl) (by kernel_rfl) hd
 exact At.self hc
def cG (W : World) : Ctx := ⟨fun k v => if k = 1 ∧ v = 0 then some .nil else none, (c0 W).ro⟩
def HG : Heap := fun k => if k = 1 then some (.glob 1 Uc) else none
theorem cG_le (W : World) : (c0 W).le (cG W) := ⟨fun h => by simp [c0] at h, fun h => h⟩
theorem gokG : GOK 1 1 HG 2 := ⟨fun h => absurd rfl h, rfl, odc, odc⟩
theorem simG {W : World} (h : laidMetH prog tabs W) : Sim (cG W) HG 2 W where
 ro := (sim0 W).ro
 own := fun k o hk => by
   obtain ⟨aT, tT, fT, hT, aT'⟩ := tables h
   unfold HG at hk
   split at hk
   ·rename_i e; subst e; cases hk
    refine ⟨by simp [cG], fun x hx => ?_, aT, _, by simp [cG, c0, hT], ?_, aT'⟩
    ·obtain ⟨i, _, rfl⟩ := List.mem_map.1 hx; rfl
    ·unfold Uc
     generalize UE = l
     induction l with
     | nil => simp [RelF]
     | cons n l ih => simp only [List.map_cons, RelF]; exact ⟨[_], _, rfl, rfl, ih⟩
   ·simp at hk
 sep := fun k o b hk hb => by
   exact kco
 inj := fun k k' o o' b hk hk' hb _ => by
   exact kco
 fresh := fun k hk => ⟨by unfold HG; rw [if_neg om], fun v => by simp only [cG]; rw [if_neg om]⟩
 vers := fun k o v hk hv => by
   have : ¬ v = 0 := om
   simp [cG, this]
theorem retG {f : FuncId} {args : List AV} {W : World} {vs : List Value} (hw : laidMetH prog tabs W) (h : Ret prog f args HG 2 (.bool true) HG 2) (hr : RelT (c0 W) args vs) :
   Calls prog f vs.toArray W fun e w' => e = .returned (.bool true) ∧ RowKit.Below W.heap.size W w' :=
 (h (cG W) W vs (simG hw) (RelT.mono (cG_le W) _ _ hr)).mono fun e w' ⟨res, c', H', n', ⟨hres, _, _⟩, hst, hm⟩ => by
   subst hres
   refine ⟨?_, ?_⟩
   ·exact kbO
   ·have hf := hst.fr
    exact ⟨hf.os, hf.tape, hf.output, hf.size, fun k hk => hf.keep k hk fun ⟨j, o, h1, hb⟩ => by
      unfold HG at h1
      split at h1
      ·rename_i e; subst e; cases h1; simp [Zf, AObj.ver, cG] at hb
      ·simp at h1⟩
def putCells (cs : Array Value) : Obj → Obj
 | .cells _ t fr => .cells cs t fr
 | o => o
noncomputable def JV (os : Os) : World :=
 { World.holding prog os ⟨#[], #[], []⟩ with heap := (World.holding prog os ⟨#[], #[], []⟩).heap.modify 1 (putCells #[.int .u32 0, .int .u32 274646895, .int .u32 549293790, .int .u32 820201905, .int .u32 1098587580, .int .u32 1361435347, .int .u32 1640403810, .int .u32 1905808397, .int .u32 2197175160, .int .u32 2460548119, .int .u32 2722870694, .int .u32 2987750089, .int .u32 3280807620, .int .u32 3553878443, .int .u32 3811616794, .int .u32 4084100981]) }
section
variable {H : Type} {enc : TypeId × Value → H} {W : World}
def SStrU (a : AV) (m : Nat) : Prop := ∃ s, a = .str s ∧ m = s.length + 1
theorem rStrU : Reads enc prog W Rows.uptoBulk 9 SStrU := fun fuel cs x h => by
 obtain ⟨s, rfl, rfl, _⟩ := DataW.trod_string underlying9 h
 exact ⟨_, _, ⟨s.data.toList, rfl, rfl⟩, by simp [Rel], by simp [Rows.uptoBulk]⟩
theorem rStrs : Reads enc prog W Rows.uptoBulk 81 (sSl 1 SStrU) := Kh Kb underlying81 (by kernel_rfl) odc rStrU fun a m h => by obtain ⟨x, rfl, _⟩ := h; rfl
set_option maxRecDepth 100000 in
theorem argStrs {v : Value} {d : DataW H} {ps : List MemPlace} (hv : Value.okWide prog W .any 0 81 v) (h : DataW.Trod enc prog W 0 (fun _ => true) true 81 v d ps) (hb : Rows.uptoBulk d ≤ 1048576) :
   ∃ l : List (List UInt8), Rel (c0 W) (.sl 1 (l.map AV.str)) false [v] ∧ l.length ≤ 1048576 ∧ ∀ y ∈ l, y.length ≤ 1048576 := by
 obtain ⟨a, m, h1, h2, h3⟩ := reads_arg rStrs h
 obtain ⟨l, rfl, h4, h5⟩ := sSl_map (f := AV.str) (q := List.length) (fun a m ⟨s, h1, h2⟩ => ⟨s, h1, om, om⟩) h1
 obtain ⟨aa, len, cap, rfl⟩ := okWide_slice underlying81 hv
 exact ⟨l, rel_flat h2 (fun h => by simp [AV.isAgg] at h) (fun _ => rfl), om, fun y hy => by have := h5 y hy; omega⟩
end
end Go.Proofs.YtkmkbndcekklmaaGreatDoor
namespace Go.Rt
open Go Go.Sx
def X5 (s : List UInt8) : List UInt8 := [34] ++ s.flatMap ZL ++ [34]
def decS (n : Nat) : List UInt8 := if h : n < 10 then [UInt8.ofNat (48 + n)] else decS (n / 10) ++ [UInt8.ofNat (48 + n % 10)]
termination_by n
decreasing_by omega
def valD (l : List UInt8) : Nat := l.foldl (fun n c => 10 * n + (c.toNat - 48)) 0
theorem valD_snoc (l : List UInt8) (c : UInt8) : valD (l ++ [c]) = 10 * valD l + (c.toNat - 48) := by simp [valD]
theorem Jn {c : UInt8} (h : Zk c = true) : 48 ≤ c.toNat ∧ c.toNat ≤ 57 := by unfold Zk at h; simp only [Bool.and_eq_true, decide_eq_true_eq] at h; exact h
theorem of48 {c : UInt8} (h : Zk c = true) : UInt8.ofNat (48 + (c.toNat - 48)) = c := by
 have := Jn h
 apply UInt8.toNat_inj.1
 rw [UInt8.toNat_ofNat_of_lt' (by simp [UInt8.size]; omega)]; omega
theorem valD_pos : ∀ (l : List UInt8) (n : Nat), 1 ≤ n → 1 ≤ l.foldl (fun n c => 10 * n + (c.toNat - 48)) n
 | [], _, h => h
 | c :: l, n, h => by rw [List.foldl_cons]; exact valD_pos l _ om
theorem decS_val' : ∀ (n : Nat) (l : List UInt8), l.length = n → (∀ c ∈ l, Zk c = true) → l ≠ [] → (l.length = 1 ∨ l.getD 0 0 ≠ 48) → decS (valD l) = l
 | 0, l, hn, _, h, _ => absurd (List.length_eq_zero_iff.1 hn) h
 | n + 1, l, hn, hd, hne, h0 => by
   obtain ⟨m, c, rfl⟩ : ∃ m c, l = m ++ [c] := ⟨l.dropLast, l.getLast hne, (List.dropLast_concat_getLast hne).symm⟩
   have hc := hd c osi
   have hb := Jn hc
   rw [valD_snoc]
   cases m with
   | nil =>
     rw [decS, dif_pos (by simp [valD]; omega)]
     simp only [valD, List.foldl_nil, Nat.mul_zero, Nat.zero_add, List.nil_append]
     rw [of48 hc]
   | cons a l =>
     have ha : a ≠ 48 := by
       rcases h0 with h0 | h0
       ·simp at h0
       ·simpa using h0
     have hab := Jn (hd a osi)
     have hp : 1 ≤ valD (a :: l) := by
       have ha2 : a.toNat ≠ 48 := fun e => ha (UInt8.toNat_inj.1 e)
       unfold valD
       rw [List.foldl_cons]
       exact valD_pos l _ om
     have := decS_val' n (a :: l) (by simp at hn ⊢; omega) (fun x hx => hd x (by simp at hx ⊢; rcases hx with h | h <;> simp [h])) osi (.inr (by simpa using ha))
     rw [decS, dif_neg om, show (10 * valD (a :: l) + (c.toNat - 48)) / 10 = valD (a :: l) by omega, show (10 * valD (a :: l) + (c.toNat - 48)) % 10 = c.toNat - 48 by omega, this, of48 hc]
theorem decS_val (l : List UInt8) (hd : ∀ c ∈ l, Zk c = true) (hn : l ≠ []) (h0 : l.length = 1 ∨ l.getD 0 0 ≠ 48) : decS (valD l) = l := decS_val' _ l rfl hd hn h0
def TxW (w : Wd) : Prop := (w.kind = 3 → w.text = X5 w.str) ∧ (w.kind = 2 → w.text = decS w.num ∧ w.num ≤ 1099511627776)
theorem KM : ∀ (f : Nat) (l : List UInt8) (i : Nat) (s x : List UInt8) {r : List UInt8 × List UInt8 × Nat}, x = [34] ++ s.flatMap ZL → strG f l i s x = some r → r.2.1 = X5 r.1
 | 0, _, _, _, _, _, _, h => by simp [strG] at h
 | f + 1, l, i, s, x, r, hx, h => by
   unfold strG at h
   split at h
   ·cases h
   rename_i c l
   split at h
   ·cases h; subst hx; rfl
   split at h
   ·cases h
   split at h
   ·split at h
    ·cases h
    rename_i d l
    split at h
    ·exact KM f l _ _ _ (by subst hx; simp) h
    split at h
    ·cases h
    rename_i e l
    split at h
    ·exact KM f l _ _ _ (by subst hx; simp) h
    ·cases h
   ·exact KM f l _ _ _ (by subst hx; simp) h
theorem foldl_big : ∀ (l : List UInt8) (n : Nat), n * 10 ^ l.length ≤ l.foldl (fun n c => 10 * n + (c.toNat - 48)) n
 | [], n => osi
 | c :: l, n => by
   have := foldl_big l (10 * n + (c.toNat - 48))
   rw [List.foldl_cons, List.length_cons]
   refine Nat.le_trans ?_ this
   rw [Nat.pow_succ, Nat.mul_comm (10 ^ l.length) 10, ← Nat.mul_assoc]
   exact Nat.mul_le_mul_right _ om
theorem mem_tw {p : UInt8 → Bool} : ∀ {l : List UInt8} {c : UInt8}, c ∈ l.takeWhile p → p c = true
 | [], _, h => by simp at h
 | a :: l, c, h => by
   rw [List.takeWhile_cons] at h
   split at h
   ·rename_i ha
    rcases List.mem_cons.1 h with rfl | h
    ·exact ha
    ·exact mem_tw h
   ·simp at h
theorem numF_tx {t : List UInt8} {p : Nat} {x : Wd × Nat} (hne : (t.drop p).takeWhile Zk ≠ []) (h : numF t p = some x) : TxW x.1 := by
 unfold numF at h
 simp only at h
 have hd : ∀ c ∈ (t.drop p).takeWhile Zk, Zk c = true := fun c hc => mem_tw hc
 generalize (t.drop p).takeWhile Zk = d at *
 split at h
 ·cases h
 rename_i hb
 cases h
 refine ⟨fun h => by simp at h, fun _ => ?_⟩
 simp only
 have h0 : d.length = 1 ∨ d.getD 0 0 ≠ 48 := by
   rcases Nat.lt_or_ge 1 d.length with h | h
   ·exact .inr fun e => hb (.inr ⟨h, e⟩)
   ·left; have : d.length ≠ 0 := fun e => hne (List.length_eq_zero_iff.1 e); omega
 have hl : d.length ≤ 13 := by
   rcases Nat.lt_or_ge 13 d.length with h | h
   ·exfalso
    apply hb; left
    cases d with
    | nil => simp at h
    | cons a l =>
      have ha : a ≠ 48 := by
        rcases h0 with h0 | h0
        ·rw [h0] at h; omega
        ·simpa using h0
      have hab := Jn (hd a osi)
      have ha2 : a.toNat ≠ 48 := fun e => ha (UInt8.toNat_inj.1 e)
      unfold numV
      rw [List.take_succ_cons, List.foldl_cons]
      have := foldl_big (l.take 13) (10 * 0 + (a.toNat - 48))
      have hlt : (l.take 13).length = 13 := by rw [List.length_take]; simp at h; omega
      rw [hlt] at this
      refine Nat.lt_of_lt_of_le ?_ this
      have : 1 * 10 ^ 13 ≤ (10 * 0 + (a.toNat - 48)) * 10 ^ 13 := Nat.mul_le_mul_right _ om
      omega
   ·exact h
 have e : numV d = valD d := by unfold numV valD; rw [List.take_of_length_le om]
 have hle : numV d ≤ 1099511627776 := Nat.le_of_not_lt fun h => hb (.inl h)
 refine ⟨?_, hle⟩
 rw [e]; exact (decS_val d hd hne h0).symm
theorem wordF_tx {t : List UInt8} {p q : Nat} {w : Wd} (h : Y7 t p = .ok (w, q)) : TxW w := by
 unfold Y7 at h
 simp only at h
 split at h
 ·cases h; exact ⟨fun h => by simp at h, fun h => by simp at h⟩
 rename_i c l hc
 split at h
 ·cases h; exact ⟨fun h => by simp at h, fun h => by simp at h⟩
 split at h
 ·rename_i hd
  split at h
  ·rename_i x hx
   cases h
   exact numF_tx (by rw [hc, List.takeWhile_cons, if_pos hd]; simp) hx
  ·cases h
 split at h
 ·split at h
  ·rename_i x hx
   cases h
   unfold strF at hx
   obtain ⟨r, hr, e⟩ := Option.map_eq_some_iff.1 hx
   simp only [Prod.mk.injEq] at e
   obtain ⟨rfl, rfl⟩ := e
   exact ⟨fun _ => KM _ _ _ _ _ osi hr, fun h => by simp at h⟩
  ·cases h
 split at h
 ·cases h; exact ⟨fun h => by simp at h, fun h => by simp at h⟩
 ·cases h
def sepT (v w : List UInt8) : List UInt8 := if w ≠ [41] ∧ v ≠ [40] then [32] else []
def Yz : Option (List UInt8) → List (List UInt8) → List UInt8
 | _, [] => []
 | none, w :: l => w ++ Yz (some w) l
 | some v, w :: l => sepT v w ++ w ++ Yz (some w) l
def txO (o : List Wd) : List (List UInt8) := o.map (·.text)
theorem Md : ∀ (l : List Wd) (o : Option Wd), YW o l = Yz (o.map (·.text)) (txO l)
 | [], o => by cases o <;> rfl
 | w :: l, none => by unfold YW; rw [Md l]; rfl
 | w :: l, some v => by unfold YW; rw [Md l]; rfl
def Yr (k : List UInt8) : List (List UInt8) → List UInt8
 | [] => []
 | a :: l => a ++ l.flatMap (fun b => [32] ++ k ++ [32] ++ b)
theorem LM (k b : List UInt8) : ∀ (l : List (List UInt8)), l ≠ [] → Yr k (l ++ [b]) = Yr k l ++ [32] ++ k ++ [32] ++ b
 | [], h => absurd rfl h
 | a :: l, _ => by simp [Yr]
mutual
def CR.prn : CR → List UInt8
 | .nd k l s t n => if k = wOr ∨ k = wAnd then Yr k (MK l) else if k = wNot then wNot ++ [32] ++ (MK l).headD [] else if k = wIn then [40] ++ (MK l).headD [] ++ [41]
   else k ++ [32] ++ s ++ [32] ++ (if k = Z9 ∨ k = ZW then X5 t else if k = wTs then decS n.toNat else t)
def MK : List CR → List (List UInt8)
 | [] => []
 | c :: l => c.prn :: MK l
end
theorem MP : ∀ l : List CR, MK l = l.map CR.prn
 | [] => rfl
 | c :: l => by rw [MK, List.map_cons, MP l]
mutual
def CR.wf : CR → Prop
 | .nd k l s t n => if k = wOr ∨ k = wAnd then MS l else if k = wNot ∨ k = wIn then (∃ c, l = [c]) ∧ MS l else (k = wTs → 0 ≤ n ∧ n ≤ 1099511627776)
def MS : List CR → Prop
 | [] => True
 | c :: l => c.wf ∧ MS l
end
theorem Nz : ∀ l : List CR, MS l ↔ ∀ c ∈ l, c.wf
 | [] => by simp [MS]
 | c :: l => by simp [MS, Nz l]
theorem Nb {l : List CR} {c : CR} (h : MS l) (hc : c.wf) : MS (l ++ [c]) := by
 rw [Nz] at *
 intro x hx
 rcases List.mem_append.1 hx with hx | hx
 ·exact h x hx
 ·rw [List.mem_singleton] at hx; exact hx ▸ hc
def PT (T : List (List UInt8)) (b : List UInt8) : Prop := ∃ a l z m, T = a :: l ∧ T = m ++ [z] ∧ a ≠ [41] ∧ z ≠ [40] ∧ Yz none T = b
theorem Uo : ∀ (A : List (List UInt8)) (o : Option (List UInt8)) (z : List UInt8) (B : List (List UInt8)), Yz o (A ++ z :: B) = Yz o (A ++ [z]) ++ Yz (some z) B
 | [], none, z, B => by simp [Yz]
 | [], some v, z, B => by simp [Yz]
 | a :: A, none, z, B => by simp only [List.cons_append, Yz]; rw [Uo A _ z B]; simp
 | a :: A, some v, z, B => by simp only [List.cons_append, Yz]; rw [Uo A _ z B]; simp
theorem VD (v a : List UInt8) (l : List (List UInt8)) : Yz (some v) (a :: l) = sepT v a ++ Yz none (a :: l) := by simp [Yz]
theorem PT.app {A B : List (List UInt8)} {a b k : List UInt8} (hA : PT A a) (hB : PT B b) (k1 : k ≠ [41]) (k2 : k ≠ [40]) : PT (A ++ [k] ++ B) (a ++ [32] ++ k ++ [32] ++ b) := by
 obtain ⟨a1, l1, z1, m1, e1, f1, h1, g1, rfl⟩ := hA
 obtain ⟨a2, l2, z2, m2, e2, f2, h2, g2, rfl⟩ := hB
 refine ⟨a1, l1 ++ [k] ++ B, z2, A ++ [k] ++ m2, by rw [e1]; simp, by rw [f2]; simp, h1, g2, ?_⟩
 rw [f1, e2, List.append_assoc, List.append_assoc, List.singleton_append, Uo, List.singleton_append, VD, ← List.nil_append (k :: a2 :: l2)]
 rw [List.nil_append, show Yz none (k :: a2 :: l2) = k ++ Yz (some k) (a2 :: l2) from rfl, VD]
 unfold sepT
 rw [if_pos ⟨k1, g1⟩, if_pos ⟨h2, k2⟩]
 simp
theorem PT.pre {B : List (List UInt8)} {b k : List UInt8} (hB : PT B b) (k1 : k ≠ [41]) (k2 : k ≠ [40]) : PT ([k] ++ B) (k ++ [32] ++ b) := by
 obtain ⟨a2, l2, z2, m2, e2, f2, h2, g2, rfl⟩ := hB
 refine ⟨k, B, z2, k :: m2, rfl, by rw [f2]; rfl, k1, g2, ?_⟩
 rw [e2, List.singleton_append, show Yz none (k :: a2 :: l2) = k ++ Yz (some k) (a2 :: l2) from rfl, VD]
 unfold sepT
 rw [if_pos ⟨h2, k2⟩]; simp
theorem PT.inn {B : List (List UInt8)} {b : List UInt8} (hB : PT B b) : PT ([[40]] ++ B ++ [[41]]) ([40] ++ b ++ [41]) := by
 obtain ⟨a2, l2, z2, m2, e2, f2, h2, g2, rfl⟩ := hB
 refine ⟨[40], B ++ [[41]], [41], [[40]] ++ B, rfl, rfl, odc, odc, ?_⟩
 have e3 : Yz none ([[40]] ++ B ++ [[41]]) = [40] ++ Yz (some [40]) (B ++ [[41]]) := rfl
 have e4 : B ++ [[41]] = m2 ++ z2 :: [[41]] := by rw [f2]; simp
 have e5 : Yz (some z2) [[41]] = [41] := by simp [Yz, sepT]
 rw [e3, e4, Uo, e5, ← f2, e2, VD]
 simp [sepT]
theorem PT.three {k s w : List UInt8} (k1 : k ≠ [41]) (k2 : k ≠ [40]) (s1 : s ≠ [41]) (s2 : s ≠ [40]) (w1 : w ≠ [41]) (w2 : w ≠ [40]) : PT [k, s, w] (k ++ [32] ++ s ++ [32] ++ w) :=
 ⟨k, [s, w], w, [k, s], rfl, rfl, k1, w2, by simp [Yz, sepT, k2, s1, s2, w1]⟩
theorem PT.one {A : List (List UInt8)} {a k : List UInt8} (h : PT A a) : PT A (Yr k [a]) := by simpa [Yr] using h
theorem quoteS_ne (s : List UInt8) : X5 s ≠ [41] ∧ X5 s ≠ [40] := by
 constructor <;> intro e <;> have := congrArg List.head? e <;> simp [X5] at this
theorem decS_ne (n : Nat) : decS n ≠ [41] ∧ decS n ≠ [40] := by
 rw [decS]
 split
 ·rename_i h
  constructor <;> intro e <;> have := congrArg (fun l => (l.headD 0).toNat) e <;> simp at this <;> omega
 ·have hl : ∀ n, (decS n).length ≠ 0 := fun n => by rw [decS]; split <;> simp
  constructor <;> intro e <;> have h1 := congrArg List.length e <;> have h2 := hl (n / 10) <;> simp at h1 <;> exact absurd (by simpa using h1) h2
section
variable {fs : List Fml} {t : List UInt8}
theorem stepF_tx {s s' : Qst} (h : XX t s = .ok s') : TxW s'.nxt ∧ s'.out = s.out := by
 unfold XX at h
 cases hw : Y7 t s.far with
 | error a => rw [hw] at h; cases h
 | ok x => rw [hw] at h; cases h; exact ⟨wordF_tx (w := x.1) (q := x.2) hw, rfl⟩
theorem WQ {s : Qst} {x : Wd × Qst} (h : ZX t s = .ok x) : TxW x.2.nxt ∧ txO x.2.out = txO s.out ++ [s.nxt.text] := by
 unfold ZX at h
 cases hs : XX t { s with out := s.out ++ [s.nxt] } with
 | error a => rw [hs] at h; cases h
 | ok y =>
   rw [hs] at h; cases h
   obtain ⟨h1, h2⟩ := stepF_tx hs
   exact ⟨h1, by simp only [h2]; simp [txO]⟩
theorem JX {s : Qst} {w : List UInt8} (h : isF s w = true) : s.nxt.text = w := by unfold isF at h; simp only [Bool.and_eq_true, beq_iff_eq] at h; exact h.2
def txC (q : Qst) (x : Except Nat (Tst × Qst)) (r : CR × Ro) : Prop := ∀ y, x = .ok y → TxW y.2.nxt ∧ ∃ T, txO y.2.out = txO q.out ++ T ∧ PT T r.1.prn ∧ r.1.wf
def txL (k : List UInt8) (l : List CR) (q : Qst) (x : Except Nat (Tst × Qst)) (r : List CR × Ro) : Prop := ∀ y, x = .ok y → TxW y.2.nxt ∧ ∃ T, txO y.2.out = txO q.out ++ T ∧
 ∀ T0, (l = [] ∧ T0 = [] ∨ l ≠ [] ∧ ∃ T1, T0 = T1 ++ [k] ∧ PT T1 (Yr k (MK l))) → PT (T0 ++ T) (Yr k (MK r.1)) ∧ (MS l → MS r.1)
theorem prns_snoc (l : List CR) (c : CR) : MK (l ++ [c]) = MK l ++ [c.prn] := by rw [MP, MP, List.map_append]; rfl
theorem PT.snoc {k : List UInt8} (k1 : k ≠ [41]) (k2 : k ≠ [40]) {l : List CR} {c : CR} {T0 T : List (List UInt8)} (h0 : l = [] ∧ T0 = [] ∨ l ≠ [] ∧ ∃ T1, T0 = T1 ++ [k] ∧ PT T1 (Yr k (MK l))) (h : PT T c.prn) : PT (T0 ++ T) (Yr k (MK (l ++ [c]))) := by
 rw [prns_snoc]
 rcases h0 with ⟨rfl, rfl⟩ | ⟨hl, T1, rfl, h1⟩
 ·exact h.one
 ·rw [LM _ _ _ (by rw [MP]; simpa using hl)]; exact h1.app h k1 k2
theorem loop_tx {k : List UInt8} (k1 : k ≠ [41]) (k2 : k ≠ [40]) {q x2 y2 z : Qst} {l : List CR} {c : CR} {L : List CR} {T T' : List (List UInt8)} (hx : txO x2.out = txO q.out ++ T) (hT : PT T c.prn ∧ c.wf) (hy : txO y2.out = txO x2.out ++ [k]) (hz : txO z.out = txO y2.out ++ T')
   (hT' : ∀ T0, (l ++ [c] = [] ∧ T0 = [] ∨ l ++ [c] ≠ [] ∧ ∃ T1, T0 = T1 ++ [k] ∧ PT T1 (Yr k (MK (l ++ [c])))) → PT (T0 ++ T') (Yr k (MK L)) ∧ (MS (l ++ [c]) → MS L)) :
   ∃ T, txO z.out = txO q.out ++ T ∧ ∀ T0, (l = [] ∧ T0 = [] ∨ l ≠ [] ∧ ∃ T1, T0 = T1 ++ [k] ∧ PT T1 (Yr k (MK l))) → PT (T0 ++ T) (Yr k (MK L)) ∧ (MS l → MS L) := by
 refine ⟨T ++ [k] ++ T', by rw [hz, hy, hx]; simp, fun T0 h0 => ?_⟩
 have := hT' (T0 ++ T ++ [k]) (.inr ⟨osi, T0 ++ T, rfl, PT.snoc k1 k2 h0 hT.1⟩)
 exact ⟨by simpa using this.1, fun hl => this.2 (Nb hl hT.2)⟩
theorem testF_tx (ht : t.length ≤ 512) {q : Qst} (hq : QsOK t q) (hw : TxW q.nxt) : txC q (UD fs t q) (XE fs t (toR q)) := fun y hy => by
 have hy' := hy
 rw [testF_M] at hy
 unfold XE
 rw [if_neg (Vq q)]
 split at hy
 rotate_left
 ·cases hy
 rename_i h0
 have hin : q.nxt.text ∈ ws4 := by
   rcases h0 with h | h | h | h <;> rw [JX h] <;> decide
 have k1 : q.nxt.kind = 1 := by
   have hn : q.nxt.text ∉ Yf := ws4_sg _ hin
   have : (q.nxt.kind == 1 || q.nxt.kind == 4) = true := by
     rcases h0 with h | h | h | h <;> (unfold isF at h; simp only [Bool.and_eq_true] at h; exact h.1)
   simp only [Bool.or_eq_true, beq_iff_eq] at this
   rcases this with h | h
   ·exact h
   ·exact absurd (hq.w.s h) hn
 rw [if_neg (by
   rintro (h | h)
   ·exact h ((Xd _).2.1.2 k1)
   ·rw [YP om] at h; exact h hin)]
 rw [YP (s := q) om]
 generalize hk : q.nxt.text = k at *
 cases hx : ZX t q with
 | error a => rw [hx] at hy; cases hy
 | ok x =>
   rw [hx, Zp] at hy
   obtain ⟨x1, x2, x3, _⟩ := Xc ht hq.p hx
   obtain ⟨x5, x6⟩ := WQ hx
   rw [x1, if_neg (Vq _)]
   unfold KV UK at hy
   split at hy
   rotate_left
   ·cases hy
   rename_i h4
   obtain ⟨k4, tm⟩ := h4
   rw [if_neg (by
     rintro (h | h)
     ·exact h (Qg.2 om)
     ·rw [YP om] at h; exact h tm)]
   rw [YP (s := x.2) om]
   cases hz : ZX t x.2 with
   | error a => rw [hz] at hy; cases hy
   | ok z =>
     rw [hz, Xf, Zp] at hy
     obtain ⟨y1, y2, y3, y4⟩ := Xc ht x2.p hz
     obtain ⟨z5, z6⟩ := WQ hz
     rw [y1, if_neg (Vq _)]
     simp only at hy
     split at hy
     ·cases hy
     rename_i h6
     have hkn : z.2.nxt.kind = kdOf k := Classical.byContradiction fun e => h6 (.inl e)
     have hkd : (toR z.2).w.kind = agK k := by
       unfold agK kdOf at *
       rw [toR_kind]
       split at hkn
       ·rw [if_pos ‹_›]; exact (Xd _).2.1.2 hkn
       ·rw [if_neg ‹_›]
        split at hkn
        ·rw [if_pos ‹_›]; exact (Xd _).2.2.1.2 hkn
        ·rw [if_neg ‹_›]; exact (Xd _).2.2.2.2 hkn
     rw [if_neg (by
       rintro (h | ⟨h1, h2⟩)
       ·exact h hkd
       ·rw [YP (by rw [hkn, h1]; decide)] at h2; exact h6 (.inr ⟨h1, h2⟩))]
     cases hv : ZX t z.2 with
     | error a => rw [hv] at hy; cases hy
     | ok v =>
       rw [hv, Xf] at hy
       cases hy
       obtain ⟨v5, v6⟩ := WQ hv
       refine ⟨v5, [k, x.2.nxt.text, z.2.nxt.text], by simp only; rw [v6, z6, x6, hk]; simp, ?_⟩
       have hno : ∀ w ∈ ws4, ¬ (w = wOr ∨ w = wAnd) ∧ w ≠ wNot ∧ w ≠ wIn := odc
       obtain ⟨n1, n2, n3⟩ := hno k hin
       refine ⟨?_, ?_⟩
       rotate_left
       ·show CR.wf (.nd k [] x.2.nxt.text (toR z.2).w.text (toR z.2).w.num)
        unfold CR.wf
        rw [if_neg n1, if_neg (by rintro (h | h); exact n2 h; exact n3 h)]
        intro e2
        have e3 : z.2.nxt.kind = 2 := by rw [hkn, e2]; rfl
        have := (z5.2 e3).2
        exact ⟨Int.natCast_nonneg _, by show ((z.2.nxt.num : Nat) : Int) ≤ _; omega⟩
       have sg : x.2.nxt.text ≠ [41] ∧ x.2.nxt.text ≠ [40] := by
         have : ∀ k, ∀ w ∈ mayS k, w ≠ [41] ∧ w ≠ [40] := fun k w hw => by
           unfold mayS at hw
           split at hw
           ·revert w; decide
           ·split at hw
            ·revert w; decide
            ·revert w; decide
         exact this k _ tm
       have kk : k ≠ [41] ∧ k ≠ [40] := by
         have : ∀ w ∈ ws4, w ≠ [41] ∧ w ≠ [40] := odc
         exact this k hin
       have pr : CR.prn (.nd k [] x.2.nxt.text (toR z.2).w.text (toR z.2).w.num) = k ++ [32] ++ x.2.nxt.text ++ [32] ++ z.2.nxt.text := by
         unfold CR.prn
         rw [if_neg n1, if_neg n2, if_neg n3]
         congr 1
         by_cases e1 : k = Z9 ∨ k = ZW
         ·have e3 : z.2.nxt.kind = 3 := by rw [hkn]; rcases e1 with rfl | rfl <;> rfl
          rw [if_pos e1, show (toR z.2).w.text = z.2.nxt.str from if_pos e3, z5.1 e3]
         ·rw [if_neg e1]
          by_cases e2 : k = wTs
          ·have e3 : z.2.nxt.kind = 2 := by rw [hkn, e2]; rfl
           rw [if_pos e2, (z5.2 e3).1]; rfl
          ·rw [if_neg e2]
           refine YP ?_
           have : k = wFam := by
             simp only [ws4, List.mem_cons, List.not_mem_nil, or_false] at hin
             rcases hin with h | h | h | h
             ·exact h
             ·exact absurd (.inl h) e1
             ·exact absurd (.inr h) e1
             ·exact absurd h e2
           rw [hkn, this]; decide
       show PT _ (CR.prn (.nd k [] x.2.nxt.text (toR z.2).w.text (toR z.2).w.num))
       rw [pr]
       have ww : z.2.nxt.text ≠ [41] ∧ z.2.nxt.text ≠ [40] := by
         have hq3 : z.2.nxt.kind = 1 ∨ z.2.nxt.kind = 2 ∨ z.2.nxt.kind = 3 := by rw [hkn]; unfold kdOf; (repeat' split) <;> simp
         rcases hq3 with h | h | h
         ·obtain ⟨c, l, e, hc⟩ := y2.w.n h
          rw [e]
          constructor <;> intro e2 <;> (cases e2; exact absurd hc odc)
         ·rw [(z5.2 h).1]; exact decS_ne _
         ·rw [z5.1 h]; exact quoteS_ne _
       exact PT.three kk.1 kk.2 sg.1 sg.2 ww.1 ww.2
theorem openF_tx {q x : Qst} (h : WZ t q = .ok x) : TxW x.nxt ∧ txO x.out = txO q.out ++ [q.nxt.text] := by
 unfold WZ at h
 split at h
 ·cases h
 ·cases hx : ZX t { q with deep := q.deep + 1 } with
  | error a => rw [hx] at h; cases h
  | ok y => rw [hx] at h; cases h; exact WQ (s := { q with deep := q.deep + 1 }) hx
theorem condF_tx (ht : t.length ≤ 512) : ∀ f, (∀ q, QsOK t q → TxW q.nxt → txC q (Yl fs t f q) (Zz fs t f (toR q))) ∧
   (∀ l q, QsOK t q → TxW q.nxt → txL wAnd l q ((Yl fs t f q).bind fun x => WC fs t f (if l = [] then x.1 else .and (Yt .and (MJ fs l)) x.1) x.2) (Z8 fs t (f + 1) l (toR q))) ∧
   (∀ q, QsOK t q → TxW q.nxt → txC q (Yw fs t f q) (ZN fs t f (toR q))) ∧
   (∀ l q, QsOK t q → TxW q.nxt → txL wOr l q ((Yw fs t f q).bind fun x => orsF fs t f (if l = [] then x.1 else .or (Yt .or (MJ fs l)) x.1) x.2) (orsR fs t (f + 1) l (toR q))) ∧
   (∀ q, QsOK t q → TxW q.nxt → txC q (XY fs t f q) (ZR fs t f (toR q))) := by
 have ands : ∀ f, (∀ q, QsOK t q → TxW q.nxt → txC q (Yl fs t f q) (Zz fs t f (toR q))) → (∀ g, f = g + 1 → ∀ l q, QsOK t q → TxW q.nxt → txL wAnd l q ((Yl fs t g q).bind fun x => WC fs t g (if l = [] then x.1 else .and (Yt .and (MJ fs l)) x.1) x.2) (Z8 fs t (g + 1) l (toR q))) →
     ∀ l q, QsOK t q → TxW q.nxt → txL wAnd l q ((Yl fs t f q).bind fun x => WC fs t f (if l = [] then x.1 else .and (Yt .and (MJ fs l)) x.1) x.2) (Z8 fs t (f + 1) l (toR q)) := fun f hF hA l q hq hw v hv => by
   rw [Z8, if_pos (by simp [toR])]
   have h1 := (J6 (fs := fs) ht f).1 q hq
   have h2 := hF q hq hw
   cases hx : Yl fs t f q with
   | error p => rw [hx] at hv; cases hv
   | ok x =>
     rw [hx] at h1 hv
     obtain ⟨e1, e2, e3, e4⟩ := h1
     obtain ⟨x5, T, x6, x7⟩ := h2 x hx
     rw [Zp] at hv
     rw [e1]
     have ea : (if l = [] then x.1 else .and (Yt .and (MJ fs l)) x.1) = Yt .and (MJ fs (l ++ [(Zz fs t f (toR q)).1])) := by rw [Qc, e2]
     rw [ea] at hv
     generalize (Zz fs t f (toR q)).1 = c at *
     cases f with
     | zero => unfold Yl at hx; cases hx
     | succ g =>
       rw [WC] at hv
       rw [XQ e3.w odc]
       by_cases hi : isF x.2 wAnd = true
       ·rw [if_pos hi] at hv
        rw [if_pos hi, show isS t 110 wAnd (toR x.2) = Ze t (toR x.2) by unfold isS; rw [XQ e3.w odc, if_pos hi]]
        cases hy : ZX t x.2 with
        | error p => rw [hy] at hv; cases hv
        | ok y =>
          obtain ⟨y1, y2, y3, _⟩ := Xc ht e3.p hy
          obtain ⟨y5, y6⟩ := WQ hy
          rw [hy, Zp] at hv
          rw [y1]
          have := hA g rfl (l ++ [c]) y.2 y2 y5 v (by simp only [List.append_eq_nil_iff, List.cons_ne_nil, and_false, if_false]; exact hv)
          obtain ⟨v5, T', v6, v7⟩ := this
          exact ⟨v5, loop_tx odc odc x6 x7 (by rw [y6, JX hi]) v6 v7⟩
       ·rw [if_neg hi] at hv ⊢
        cases hv
        exact ⟨x5, T, x6, fun T0 h0 => ⟨PT.snoc odc odc h0 x7.1, fun hl => Nb hl x7.2⟩⟩
 have ors : ∀ f, (∀ q, QsOK t q → TxW q.nxt → txC q (Yw fs t f q) (ZN fs t f (toR q))) → (∀ g, f = g + 1 → ∀ l q, QsOK t q → TxW q.nxt → txL wOr l q ((Yw fs t g q).bind fun x => orsF fs t g (if l = [] then x.1 else .or (Yt .or (MJ fs l)) x.1) x.2) (orsR fs t (g + 1) l (toR q))) →
     ∀ l q, QsOK t q → TxW q.nxt → txL wOr l q ((Yw fs t f q).bind fun x => orsF fs t f (if l = [] then x.1 else .or (Yt .or (MJ fs l)) x.1) x.2) (orsR fs t (f + 1) l (toR q)) := fun f hF hA l q hq hw v hv => by
   rw [orsR, if_pos (by simp [toR])]
   have h1 := (J6 (fs := fs) ht f).2.2.1 q hq
   have h2 := hF q hq hw
   cases hx : Yw fs t f q with
   | error p => rw [hx] at hv; cases hv
   | ok x =>
     rw [hx] at h1 hv
     obtain ⟨e1, e2, e3, e4⟩ := h1
     obtain ⟨x5, T, x6, x7⟩ := h2 x hx
     rw [Zp] at hv
     rw [e1]
     have ea : (if l = [] then x.1 else .or (Yt .or (MJ fs l)) x.1) = Yt .or (MJ fs (l ++ [(ZN fs t f (toR q)).1])) := by rw [Qc, e2]
     rw [ea] at hv
     generalize (ZN fs t f (toR q)).1 = c at *
     cases f with
     | zero => unfold Yw at hx; cases hx
     | succ g =>
       rw [orsF] at hv
       rw [XQ e3.w odc]
       by_cases hi : isF x.2 wOr = true
       ·rw [if_pos hi] at hv
        rw [if_pos hi, show isS t 110 wOr (toR x.2) = Ze t (toR x.2) by unfold isS; rw [XQ e3.w odc, if_pos hi]]
        cases hy : ZX t x.2 with
        | error p => rw [hy] at hv; cases hv
        | ok y =>
          obtain ⟨y1, y2, y3, _⟩ := Xc ht e3.p hy
          obtain ⟨y5, y6⟩ := WQ hy
          rw [hy, Zp] at hv
          rw [y1]
          have := hA g rfl (l ++ [c]) y.2 y2 y5 v (by simp only [List.append_eq_nil_iff, List.cons_ne_nil, and_false, if_false]; exact hv)
          obtain ⟨v5, T', v6, v7⟩ := this
          exact ⟨v5, loop_tx odc odc x6 x7 (by rw [y6, JX hi]) v6 v7⟩
       ·rw [if_neg hi] at hv ⊢
        cases hv
        exact ⟨x5, T, x6, fun T0 h0 => ⟨PT.snoc odc odc h0 x7.1, fun hl => Nb hl x7.2⟩⟩
 intro f
 induction f with
 | zero =>
   have F0 : ∀ q, QsOK t q → TxW q.nxt → txC q (Yl fs t 0 q) (Zz fs t 0 (toR q)) := fun q _ _ y hy => by unfold Yl at hy; cases hy
   have T0 : ∀ q, QsOK t q → TxW q.nxt → txC q (Yw fs t 0 q) (ZN fs t 0 (toR q)) := fun q _ _ y hy => by unfold Yw at hy; cases hy
   exact ⟨F0, ands 0 F0 (fun g h => by cases h), T0, ors 0 T0 (fun g h => by cases h), fun q _ _ y hy => by unfold XY at hy; cases hy⟩
 | succ g ih =>
   obtain ⟨iF, iA, iT, iO, iC⟩ := ih
   have hF : ∀ q, QsOK t q → TxW q.nxt → txC q (Yl fs t (g + 1) q) (Zz fs t (g + 1) (toR q)) := fun q hq hw v hv => by
     rw [Yl] at hv
     rw [Zz, XQ hq.w odc, Jg hq.w hq.k odc]
     have ho := open_rel ht hq
     by_cases h1 : isF q wNot = true
     ·rw [if_pos h1] at hv
      rw [if_pos h1]
      cases hx : WZ t q with
      | error p => rw [hx] at hv; cases hv
      | ok x =>
        rw [hx] at ho hv
        obtain ⟨o1, o2, o3, o4⟩ := ho
        obtain ⟨o5, o6⟩ := openF_tx hx
        rw [Zp] at hv
        rw [if_neg o1, o2]
        cases hy : Yl fs t g x with
        | error p => rw [hy] at hv; cases hv
        | ok y =>
          rw [hy, Xf] at hv
          cases hv
          obtain ⟨y5, T, y6, y7⟩ := iF x o3 o5 y hy
          refine ⟨y5, [wNot] ++ T, by simp only; rw [y6, o6, JX h1]; simp, ?_⟩
          refine ⟨y7.1.pre odc odc, ?_⟩
          unfold CR.wf
          rw [if_neg odc, if_pos (.inl rfl)]
          exact ⟨⟨_, rfl⟩, y7.2, trivial⟩
     ·rw [if_neg h1] at hv ⊢
      by_cases h2 : isF q [40] = true
      ·rw [if_pos h2] at hv
       rw [if_pos h2]
       cases hx : WZ t q with
       | error p => rw [hx] at hv; cases hv
       | ok x =>
         rw [hx] at ho hv
         obtain ⟨o1, o2, o3, o4⟩ := ho
         obtain ⟨o5, o6⟩ := openF_tx hx
         rw [Zp] at hv
         rw [if_neg o1, o2]
         cases hy : XY fs t g x with
         | error p => rw [hy] at hv; cases hv
         | ok y =>
           rw [hy, Zp] at hv
           obtain ⟨y5, T, y6, y7⟩ := iC x o3 o5 y hy
           split at hv
           rotate_left
           ·cases hv
           rename_i h5
           cases hz : ZX t { y.2 with deep := y.2.deep - 1 } with
           | error p => rw [hz] at hv; cases hv
           | ok z =>
             rw [hz, Xf] at hv
             cases hv
             obtain ⟨z5, z6⟩ := WQ (s := { y.2 with deep := y.2.deep - 1 }) hz
             refine ⟨z5, [[40]] ++ T ++ [[41]], by simp only; rw [z6]; simp only; rw [y6, o6, JX h2, JX h5]; simp, ?_⟩
             refine ⟨y7.1.inn, ?_⟩
             unfold CR.wf
             rw [if_neg odc, if_pos (.inr rfl)]
             exact ⟨⟨_, rfl⟩, y7.2, trivial⟩
      ·rw [if_neg h2] at hv ⊢
       exact testF_tx ht hq hw v hv
   have hA := ands (g + 1) hF (fun g2 h => by cases h; exact iA)
   have hT : ∀ q, QsOK t q → TxW q.nxt → txC q (Yw fs t (g + 1) q) (ZN fs t (g + 1) (toR q)) := fun q hq hw v hv => by
     obtain ⟨v5, T, v6, v7⟩ := iA [] q hq hw v (by rw [Yw] at hv; exact hv)
     unfold ZN
     obtain ⟨v8, v9⟩ := v7 [] (.inl ⟨rfl, rfl⟩)
     exact ⟨v5, T, v6, v8, by unfold CR.wf; rw [if_pos odc]; exact v9 trivial⟩
   have hO := ors (g + 1) hT (fun g2 h => by cases h; exact iO)
   refine ⟨hF, hA, hT, hO, fun q hq hw v hv => ?_⟩
   obtain ⟨v5, T, v6, v7⟩ := iO [] q hq hw v (by rw [XY] at hv; exact hv)
   unfold ZR
   obtain ⟨v8, v9⟩ := v7 [] (.inl ⟨rfl, rfl⟩)
   exact ⟨v5, T, v6, v8, by unfold CR.wf; rw [if_pos odc]; exact v9 trivial⟩
end
end Go.Rt
set_option maxRecDepth 10000
namespace Go.Proofs.YtkmkbndcekklmaaGreatDoor
open Go Go.Sx Go.Rt Go.Proofs Tryz
theorem flat_succ {s : List UInt8} {i : Nat} (h : i < s.length) : (s.take (i + 1)).flatMap ZL = (s.take i).flatMap ZL ++ ZL (s.getD i 0) := by
 rw [List.take_succ_eq_append_getElem h, List.flatMap_append]; simp [List.getD, h]
theorem QF : ∀ a : Nat, a < 16 → ([48, 49, 50, 51, 52, 53, 54, 55, 56, 57, 97, 98, 99, 100, 101, 102] : List UInt8).getD a 0 = hexC a := fun a ha => by
 have key : ∀ (x : Fin 16), ([48, 49, 50, 51, 52, 53, 54, 55, 56, 57, 97, 98, 99, 100, 101, 102] : List UInt8).getD x.1 0 = hexC x.1 := by decide +kernel
 exact key ⟨a, ha⟩
theorem quo16 (c : UInt8) : IntKind.u8.wrap (((c.toNat : Nat) : Int).tdiv 16) = ((c.toNat / 16 : Nat) : Int) := by
 have key : ∀ r : Fin 256, IntKind.u8.wrap (((r.1 : Nat) : Int).tdiv 16) = ((r.1 / 16 : Nat) : Int) := by decide +kernel
 exact key ⟨c.toNat, c.toNat_lt⟩
theorem rem16 (c : UInt8) : ((c.toNat : Nat) : Int).tmod 16 = ((c.toNat % 16 : Nat) : Int) := by
 have key : ∀ r : Fin 256, ((r.1 : Nat) : Int).tmod 16 = ((r.1 % 16 : Nat) : Int) := by decide +kernel
 exact key ⟨c.toNat, c.toNat_lt⟩
theorem quoteS_len (s : List UInt8) : s.length ≤ (X5 s).length := by
 have : ∀ l : List UInt8, l.length ≤ (l.flatMap ZL).length := fun l => by
   induction l with
   | nil => simp
   | cons a l ih =>
     rw [List.flatMap_cons, List.length_append, List.length_cons]
     have : 1 ≤ (ZL a).length := by unfold ZL; split; simp; split <;> simp
     omega
 have := this s
 unfold X5
 simp only [List.length_append, List.length_cons, List.length_nil]
 omega
theorem NF40.eqs {P Q : Prop} (g : Imp P Q := by (try simp only [go_sem, seval, e1, hS, hx, List.length_map, Int.toNat_natCast, Yj]); exact MI) : Imp P Q := g
theorem NF40.sd {P : Prop} (g : P := by first | exact ⟨rfl, by (simp [AV.sz, AV.memOK]; first | done | fail)⟩ | exact ⟨om, .inr trivial, om, om⟩ | fail) : P := g
set_option maxHeartbeats 3200000 in
open NF40 NZ in
theorem c_ref13_quote (s : List UInt8) (hs : s.length ≤ 4294967296) (H : Heap) (n : Nat) : Ret prog 109 [.str s] H n (.str (X5 s)) H n := by
 have e1 := hs
 have hS := hs
 have hx := hs
 refine Ret.fin ?_
 refine fw func109 ntmps109 results109 ?_
 refine rg zs [0] ?_
 refine rg zs [0, 3] ?_
 refine YK 3 1 rfl ?_
 refine Xb [0, 3] ?_
 refine ns ?_
 refine rg zs [0, 3] ?_
 refine Zb fun K1 hK1 => ?_
 refine rg zs [0, 3, 4] ?_
 refine kbM ?_
 refine Zo (fun T' H' n' => ∃ (i : Nat) (L : List UInt8), i ≤ s.length ∧ L = [34] ++ (s.take i).flatMap ZL ∧ L.length ≤ 1 + 3 * i ∧ T' = tl [(0, .str s), (3, .osl n (i + 1) 0 L.length), (4, .int .i64 i)] ∧ H' n = some (.arr (i + 1) 1 (L.map Zd)) ∧ (∀ k, k < n → H' k = H k) ∧ n' = n + 1) (fun T' _ _ => s.length - iv (T' 4)) ?_ ?_
 ·exact ⟨0, [34], Nat.zero_le _, rfl, osi, rfl, ohr, fun k hk => oh, rfl⟩
 rintro T1 H1 n1 ⟨i, L, hi, hL, hLl, rfl, hS, hlow, rfl⟩
 refine Zb fun K2 hK2 => ?_
 refine rg zs [0, 3, 4, 12] ?_
 refine Za ?_ ?_ <;> intro hb
 ·have hlt : i < s.length := ott
  have e1 : IntKind.i64.wrap ((i : Int) + 1) = ((i + 1 : Nat) : Int) := w1 om
  obtain ⟨c, hc⟩ : ∃ c, c = s.getD i 0 := ⟨_, rfl⟩
  have hcl := c.toNat_lt
  have hfl : [34] ++ (s.take (i + 1)).flatMap ZL = L ++ ZL c := by rw [flat_succ hlt, hL, hc]; simp
  refine ak ?_
  apply hK2
  refine bk fun K3 hK3 => ?_
  refine Zh zs [0, 3, 4, 5] fun K V => ?_
  try simp only [go_sem, seval, e1, hS, hx, List.length_map, Int.toNat_natCast, Yj, e1, ← hc]
  repeat (first | (refine And.intro ?_ ?_; · first | exact ⟨om, om⟩) | refine peel ?_)
  refine kas ?_
  refine kbM ?_
  refine rg zs [0, 3, 4, 5, 27] ?_
  refine Za ?_ ?_ <;> intro hb
  ·have k0 : c.toNat = 34 ∨ c.toNat = 92 := by have h9 := hb; simp at h9; omega
   have hq : ZL c = [92, c] := by unfold ZL; rw [if_pos k0]
   refine rg1 zs [0, 3, 4] ?_
   apply hK3
   refine rg1 zs [0, 3, 4] ?_
   refine ⟨⟨i + 1, L ++ ZL c, om, hfl.symm, by rw [hq, List.length_append]; simp; omega, ?_, ?_, fun k hk => ?_⟩, om⟩
   ·rw [hq, List.length_append]; rfl
   ·rw [hq, List.map_append]; first | rfl | (rw [QF _ om, QF _ om]; rfl)
   ·rw [if_neg om]; exact hlow k hk
  have k0 : ¬ (c.toNat = 34 ∨ c.toNat = 92) := by have h9 := hb; simp at h9; omega
  refine rg zs [0, 3, 4, 5, 38] ?_
  refine Za ?_ ?_ <;> intro hb
  ·have hq : ZL c = [c] := by unfold ZL; rw [if_neg k0, if_neg]; have h9 := hb; simp at h9; omega
   refine rg1 zs [0, 3, 4] ?_
   apply hK3
   refine rg1 zs [0, 3, 4] ?_
   refine ⟨⟨i + 1, L ++ ZL c, om, hfl.symm, by rw [hq, List.length_append]; simp; omega, ?_, ?_, fun k hk => ?_⟩, om⟩
   ·rw [hq, List.length_append]; rfl
   ·rw [hq, List.map_append]; first | rfl | (rw [QF _ om, QF _ om]; rfl)
   ·rw [if_neg om]; exact hlow k hk
  have hq : ZL c = [92, hexC (c.toNat / 16), hexC (c.toNat % 16)] := by unfold ZL; rw [if_neg k0, if_pos]; have h9 := hb; simp at h9; omega
  refine U3 rfl zs [0, 3, 4] [.m, .m, .q, .q, .m, .q, .q, .q, .w [], .q] [0, 1, 2, 3, 4, 5, 6, 7, 8, 9] [0, 1, 2, 3, 4, 5, 6, 7, 8, 9] (by kernel_rfl) (fun _ _ _ _ _ h => h) fun K V => ?_
  try simp only [go_sem, seval, e1, hS, hx, List.length_map, Int.toNat_natCast, Yj, quo16, rem16, QF]
  repeat (first | (refine And.intro ?_ ?_; · first | exact ⟨om, om⟩ | exact ⟨rfl, by simp [AV.sz, AV.memOK]⟩ | exact ⟨om, .inr trivial, om, om⟩) | refine peel ?_)
  refine kas ?_
  refine ns ?_
  apply hK3
  refine rg1 zs [0, 3, 4] ?_
  refine ⟨⟨i + 1, L ++ ZL c, om, hfl.symm, by rw [hq, List.length_append]; simp; omega, ?_, ?_, fun k hk => ?_⟩, om⟩
  ·rw [hq, List.length_append]; rfl
  ·rw [hq, List.map_append]; first | rfl | (rw [QF _ om, QF _ om]; rfl)
  ·rw [if_neg om]; exact hlow k hk
 have hge : s.take i = s := List.take_of_length_le otf
 rw [hge] at hL
 have e9 : List.take (L.length + 1) (List.map Zd L ++ [AV.int IntKind.u8 34]) = (L ++ [34]).map Zd := by rw [List.take_of_length_le osi, List.map_append]; rfl
 refine ax ?_
 apply hK1
 refine Zh zs [2] fun K V => ?_
 try simp only [go_sem, seval, e1, hS, hx, List.length_map, Int.toNat_natCast, Yj, e9, X9]
 repeat (first | (refine And.intro ?_ ?_; · first | exact ⟨osi, Vn _⟩ | exact ⟨rfl, by simp [AV.sz, AV.memOK]⟩ | exact ⟨om, .inr trivial, om, om⟩) | refine peel ?_)
 refine kas ?_
 refine ar ?_
 refine ⟨_, rfl, fun k hk => ohx (hlow k hk), Frz.eq ?_ trivial⟩
 rw [hL]; rfl
theorem quo10 {m : Nat} (h : m < 9223372036854775808) : IntKind.i64.wrap (((m : Nat) : Int).tdiv 10) = ((m / 10 : Nat) : Int) := by
 rw [show ((m : Int)).tdiv 10 = ((m / 10 : Nat) : Int) from rfl, w64 om om]
theorem decS_len' : ∀ (k n : Nat), n < 10 ^ (k + 1) → (decS n).length ≤ k + 1
 | 0, n, h => by rw [decS, dif_pos om]; simp
 | k + 1, n, h => by
   rw [decS]
   split
   ·simp
   ·rw [List.length_append]
    have := decS_len' k (n / 10) (by rw [Nat.pow_succ] at h; omega)
    simp; omega
theorem NF41.eqs {P Q : Prop} (g : Imp P Q := by (try simp only [go_sem, seval, e1, e2, e3, e4, e5, hby, List.length_map, Int.toNat_natCast]); exact MI) : Imp P Q := g
theorem NF41.sd {P : Prop} (g : P := by first | exact ⟨rfl, by (simp [AV.sz, AV.memOK]; first | done | fail)⟩ | (intro x hx; rw [List.mem_singleton.1 hx]; simp only [isByte]; omega) | omega | fail) : P := g
open NF41 NZ in
theorem Mm (m : Nat) (hm : m < 4611686018427387904) (ih : ∀ x, x < m → ∀ (H : Heap) (n : Nat), Ret prog 110 [.int .i64 x] H n (.str (decS x)) H n) (H : Heap) (n : Nat) : Ret prog 110 [.int .i64 m] H n (.str (decS m)) H n := by
 have e1 : IntKind.i64.wrap (48 + (m : Int)) = ((48 + m : Nat) : Int) := by rw [w64 om om]; omega
 have e2 := quo10 (m := m) om
 have e3 : ((m : Nat) : Int).tmod 10 = ((m % 10 : Nat) : Int) := rfl
 have e4 : IntKind.i64.wrap (48 + ((m % 10 : Nat) : Int)) = ((48 + m % 10 : Nat) : Int) := by rw [w64 om om]; omega
 have e5 : IntKind.u8.wrap ((48 + m % 10 : Nat) : Int) = ((48 + m % 10 : Nat) : Int) := by rw [IntKind.wrap_u8]; omega
 have hby : ∀ k : Nat, byteOf' (AV.int .u8 (k : Int)) = UInt8.ofNat k := fun k => by simp [byteOf']
 have hln : (decS (m / 10)).length ≤ 64 := decS_len' 63 (m / 10) (Nat.lt_of_lt_of_le (show m / 10 < 4611686018427387904 by omega) odc)
 obtain ⟨z, hz⟩ : ∃ z, z = decS m := ⟨_, rfl⟩
 rw [← hz]
 rw [decS] at hz
 refine fw func110 ntmps110 results110 ?_
 refine rg zs [0] ?_
 refine Zb fun K1 hK1 => ?_
 refine rg zs [0, 4] ?_
 refine Za ?_ ?_ <;> intro hb
 ·have hlt : m < 10 := ott
  have e6 : IntKind.u8.wrap ((48 + m : Nat) : Int) = ((48 + m : Nat) : Int) := by rw [IntKind.wrap_u8]; omega
  refine Zh zs [2] fun K V => ?_
  try simp only [go_sem, seval, e1, e2, e3, e4, e5, hby, List.length_map, Int.toNat_natCast, e6]
  repeat (first | (refine And.intro ?_ ?_; · first | exact ⟨rfl, by simp [AV.sz, AV.memOK]⟩ | (intro x hx; rw [List.mem_singleton.1 hx]; simp only [isByte]; omega)) | refine peel ?_)
  refine kas ?_
  refine ar ?_
  rw [hz, dif_pos hlt]; done
 have hge : 10 ≤ m := otf
 refine ak ?_
 apply hK1
 refine dx zs [2] [.m, .q, .c, .m, .q, .q, .q, .q, .q, .q, .q] [0, 1, 2, 3, 4, 5, 6, 7, 8, 9, 10] [0, 1, 2, 3, 4, 5, 6, 7, 8, 9, 10] fun K V => ?_
 refine cq func110 (fun _ n => (ih (m / 10) om _ _)) ?_
 refine kas ?_
 refine ar ?_
 rw [hz, dif_neg om]; done
theorem KF (m : Nat) (hm : m < 4611686018427387904) : ∀ (H : Heap) (n : Nat), Ret prog 110 [.int .i64 m] H n (.str (decS m)) H n := by
 induction m using Nat.strongRecOn with
 | _ m ih => exact fun H n => Mm m hm (fun x hx => ih x hx om) H n
end Go.Proofs.YtkmkbndcekklmaaGreatDoor
namespace Go.Rt
open Go Go.Sx
mutual
def CR.good (fs : List Fml) : CR → Prop
 | .nd k l _ t n => if k = wOr then l ≠ [] ∧ MO fs l else if k = wAnd then l ≠ [] ∧ MO fs l else if k = wNot then l.length = 1 ∧ MO fs l else if k = wIn then l.length = 1 ∧ MO fs l
   else l = [] ∧ (k = wFam ∧ 0 ≤ famF fs t ∨ (k = wTs ∧ 0 ≤ n) ∨ k = Z9 ∨ k = ZW)
def MO (fs : List Fml) : List CR → Prop
 | [] => True
 | c :: l => c.good fs ∧ MO fs l
end
mutual
def CR.small : CR → Prop
 | .nd _ l _ _ _ => l.length ≤ 1048576 ∧ CR.smalls l
def CR.smalls : List CR → Prop
 | [] => True
 | c :: l => c.small ∧ CR.smalls l
end
theorem Nk (fs : List Fml) : ∀ l : List CR, MO fs l ↔ ∀ c ∈ l, c.good fs
 | [] => by simp [MO]
 | c :: l => by rw [MO, Nk fs l]; simp
theorem M3 {fs : List Fml} {l : List CR} {c : CR} (h : MO fs l) (hc : c.good fs) : MO fs (l ++ [c]) := by
 rw [Nk] at h ⊢
 intro x hx
 rcases List.mem_append.1 hx with h1 | h1
 ·exact h x h1
 ·rw [List.mem_singleton.1 h1]; exact hc
section
variable {fs : List Fml} {t : List UInt8}
theorem testR_good {s : Ro} (h : (XE fs t s).2.bad < 0) : (XE fs t s).1.good fs := by
 have hw : ∀ r : Ro, ¬ (YC t r).bad < 0 := fun r h => by
   unfold YC Yh at h
   split at h
   ·simp only at h; split at h <;> omega
   ·omega
 unfold XE at h ⊢
 by_cases h1 : 0 ≤ s.bad
 ·rw [if_pos h1] at h; simp only at h; omega
 rw [if_neg h1] at h ⊢
 by_cases h2 : s.w.kind ≠ 110 ∨ s.w.text ∉ [wFam, Z9, ZW, wTs]
 ·rw [if_pos h2] at h; exact absurd h (hw _)
 rw [if_neg h2] at h ⊢
 by_cases h3 : 0 ≤ (Ze t s).bad
 ·rw [if_pos h3] at h; simp only at h; omega
 rw [if_neg h3] at h ⊢
 by_cases h4 : (Ze t s).w.kind ≠ 103 ∨ (Ze t s).w.text ∉ mayS s.w.text
 ·rw [if_pos h4] at h; exact absurd h (hw _)
 rw [if_neg h4] at h ⊢
 by_cases h5 : 0 ≤ (Ze t (Ze t s)).bad
 ·rw [if_pos h5] at h; simp only at h; omega
 rw [if_neg h5] at h ⊢
 by_cases h6 : (Ze t (Ze t s)).w.kind ≠ agK s.w.text ∨ (s.w.text = wFam ∧ famF fs (Ze t (Ze t s)).w.text < 0)
 ·rw [if_pos h6] at h; exact absurd h (hw _)
 rw [if_neg h6]
 have h7 : s.w.text ∈ [wFam, Z9, ZW, wTs] := Classical.byContradiction fun e => h2 (.inr e)
 generalize s.w.text = k at *
 have h9 : ¬ (k = wFam ∧ famF fs (Ze t (Ze t s)).w.text < 0) := fun e => h6 (.inr e)
 simp only [List.mem_cons, or_false, List.not_mem_nil] at h7
 rcases h7 with rfl | rfl | rfl | rfl
 ·exact ⟨rfl, .inl ⟨rfl, Classical.byContradiction fun e => h9 ⟨rfl, om⟩⟩⟩
 ·exact ⟨rfl, .inr (.inr (.inl rfl))⟩
 ·exact ⟨rfl, .inr (.inr (.inr rfl))⟩
 ·exact ⟨rfl, .inr (.inl ⟨rfl, om⟩)⟩
theorem cr_good : ∀ f, (∀ s, (Zz fs t f s).2.bad < 0 → (Zz fs t f s).1.good fs) ∧
   (∀ l s, MO fs l → s.bad < 0 → (Z8 fs t f l s).2.bad < 0 → (Z8 fs t f l s).1 ≠ [] ∧ MO fs (Z8 fs t f l s).1) ∧
   (∀ s, s.bad < 0 → (ZN fs t f s).2.bad < 0 → (ZN fs t f s).1.good fs) ∧
   (∀ l s, MO fs l → s.bad < 0 → (orsR fs t f l s).2.bad < 0 → (orsR fs t f l s).1 ≠ [] ∧ MO fs (orsR fs t f l s).1) ∧
   (∀ s, s.bad < 0 → (ZR fs t f s).2.bad < 0 → (ZR fs t f s).1.good fs) := by
 intro f
 have hf0 : ∀ (s : Ro) (a : Nat), ¬ (Yh s a).bad < 0 := fun s a h => by
   unfold Yh at h
   split at h
   ·simp only at h; omega
   ·omega
 induction f with
 | zero =>
   refine ⟨fun s h => ?_, fun l s _ _ h => ?_, fun s _ h => ?_, fun l s _ _ h => ?_, fun s _ h => ?_⟩
   ·unfold Zz at h; exact absurd h (hf0 _ _)
   ·unfold Z8 at h; exact absurd h (hf0 _ _)
   ·unfold ZN at h; exact absurd h (hf0 _ _)
   ·unfold orsR at h; exact absurd h (hf0 _ _)
   ·unfold ZR at h; exact absurd h (hf0 _ _)
 | succ f ih =>
   obtain ⟨iF, iA, iT, iO, iC⟩ := ih
   have hF : ∀ s, (Zz fs t (f + 1) s).2.bad < 0 → (Zz fs t (f + 1) s).1.good fs := fun s h => by
     rw [Zz] at h ⊢
     by_cases h1 : isB 110 wNot s = true
     ·rw [if_pos h1] at h ⊢
      by_cases h2 : 16 < (Ze t s).o + 1
      ·rw [if_pos h2] at h; simp only at h; omega
      ·rw [if_neg h2] at h ⊢
       exact ⟨rfl, iF _ h, trivial⟩
     ·rw [if_neg h1] at h ⊢
      by_cases h3 : isB 103 [40] s = true
      ·rw [if_pos h3] at h ⊢
       by_cases h2 : 16 < (Ze t s).o + 1
       ·rw [if_pos h2] at h; simp only at h; omega
       ·rw [if_neg h2] at h ⊢
        obtain ⟨r, hr⟩ : ∃ r : Ro, r = { Ze t s with o := (Ze t s).o + 1 } := ⟨_, rfl⟩
        rw [← hr] at h ⊢
        have hb : (ZR fs t f r).2.bad < 0 := by
          rcases Int.lt_or_le (ZR fs t f r).2.bad 0 with h4 | h4
          ·exact h4
          ·have e1 : isS t 103 [41] (ZR fs t f r).2 = (ZR fs t f r).2 := by unfold isS; rw [WG h4]; rfl
           simp only [e1] at h
           rw [if_neg (fun e => by have := e.1; omega)] at h
           omega
        have hb0 : r.bad < 0 := by
          rcases Int.lt_or_le r.bad 0 with h4 | h4
          ·exact h4
          ·rw [condR_bad f h4] at hb; omega
        exact ⟨rfl, iC _ hb0 hb, trivial⟩
      ·rw [if_neg h3] at h ⊢
       exact testR_good h
   have hA : ∀ l s, MO fs l → s.bad < 0 → (Z8 fs t (f + 1) l s).2.bad < 0 → (Z8 fs t (f + 1) l s).1 ≠ [] ∧ MO fs (Z8 fs t (f + 1) l s).1 := fun l s hl hs h => by
     rw [Z8, if_pos hs] at h ⊢
     by_cases h1 : isB 110 wAnd (Zz fs t f s).2 = true
     ·rw [if_pos h1] at h ⊢
      have hb : (Zz fs t f s).2.bad < 0 := by
        rcases Int.lt_or_le (Zz fs t f s).2.bad 0 with h4 | h4
        ·exact h4
        ·rw [WG h4] at h1; cases h1
      rcases Int.lt_or_le (isS t 110 wAnd (Zz fs t f s).2).bad 0 with h4 | h4
      ·exact iA _ _ (M3 hl (iF s hb)) h4 h
      ·rw [Kc _ _ h4] at h; simp only at h; omega
     ·rw [if_neg h1] at h ⊢
      exact ⟨osi, M3 hl (iF s h)⟩
   have hO : ∀ l s, MO fs l → s.bad < 0 → (orsR fs t (f + 1) l s).2.bad < 0 → (orsR fs t (f + 1) l s).1 ≠ [] ∧ MO fs (orsR fs t (f + 1) l s).1 := fun l s hl hs h => by
     rw [orsR, if_pos hs] at h ⊢
     by_cases h1 : isB 110 wOr (ZN fs t f s).2 = true
     ·rw [if_pos h1] at h ⊢
      have hb : (ZN fs t f s).2.bad < 0 := by
        rcases Int.lt_or_le (ZN fs t f s).2.bad 0 with h4 | h4
        ·exact h4
        ·rw [WG h4] at h1; cases h1
      rcases Int.lt_or_le (isS t 110 wOr (ZN fs t f s).2).bad 0 with h4 | h4
      ·exact iO _ _ (M3 hl (iT s hs hb)) h4 h
      ·rw [Q8 _ _ h4] at h; simp only at h; omega
     ·rw [if_neg h1] at h ⊢
      exact ⟨osi, M3 hl (iT s hs h)⟩
   refine ⟨hF, hA, fun s hs h => ?_, hO, fun s hs h => ?_⟩
   ·rw [ZN] at h ⊢; exact hA [] s trivial hs h
   ·rw [ZR] at h ⊢; exact hO [] s trivial hs h
theorem MV {l : List CR} {c : CR} (h : CR.smalls l) (hc : c.small) : CR.smalls (l ++ [c]) := by
 induction l with
 | nil => exact ⟨hc, trivial⟩
 | cons a l ih => exact ⟨h.1, ih h.2⟩
theorem testR_small (s : Ro) : (XE fs t s).1.small := by
 unfold XE
 repeat' split
 all_goals exact ⟨osi, trivial⟩
theorem cr_small : ∀ f, f ≤ 1000000 → (∀ s, (Zz fs t f s).1.small) ∧
   (∀ l s, CR.smalls l → l.length + f ≤ 1048576 → (Z8 fs t f l s).1.length ≤ 1048576 ∧ CR.smalls (Z8 fs t f l s).1) ∧
   (∀ s, (ZN fs t f s).1.small) ∧
   (∀ l s, CR.smalls l → l.length + f ≤ 1048576 → (orsR fs t f l s).1.length ≤ 1048576 ∧ CR.smalls (orsR fs t f l s).1) ∧
   (∀ s, (ZR fs t f s).1.small) := by
 intro f
 induction f with
 | zero =>
   intro _
   refine ⟨fun s => ?_, fun l s h h1 => ?_, fun s => ?_, fun l s h h1 => ?_, fun s => ?_⟩
   ·unfold Zz; exact ⟨osi, trivial⟩
   ·unfold Z8; exact ⟨by simpa using h1, h⟩
   ·unfold ZN; exact ⟨osi, trivial⟩
   ·unfold orsR; exact ⟨by simpa using h1, h⟩
   ·unfold ZR; exact ⟨osi, trivial⟩
 | succ f ih =>
   intro hf
   obtain ⟨iF, iA, iT, iO, iC⟩ := ih om
   have hF : ∀ s, (Zz fs t (f + 1) s).1.small := fun s => by
     rw [Zz]
     split
     ·split
      ·exact ⟨osi, trivial⟩
      ·exact ⟨osi, iF _, trivial⟩
     ·split
      ·split
       ·exact ⟨osi, trivial⟩
       ·exact ⟨osi, iC _, trivial⟩
      ·exact testR_small s
   have hA : ∀ l s, CR.smalls l → l.length + (f + 1) ≤ 1048576 → (Z8 fs t (f + 1) l s).1.length ≤ 1048576 ∧ CR.smalls (Z8 fs t (f + 1) l s).1 := fun l s h h1 => by
     rw [Z8]
     split
     ·split
      ·exact iA _ _ (MV h (iF _)) (by rw [List.length_append]; simp; omega)
      ·exact ⟨by simp only [List.length_append, List.length_cons, List.length_nil]; omega, MV h (iF _)⟩
     ·exact ⟨by simp only; omega, h⟩
   have hO : ∀ l s, CR.smalls l → l.length + (f + 1) ≤ 1048576 → (orsR fs t (f + 1) l s).1.length ≤ 1048576 ∧ CR.smalls (orsR fs t (f + 1) l s).1 := fun l s h h1 => by
     rw [orsR]
     split
     ·split
      ·exact iO _ _ (MV h (iT _)) (by rw [List.length_append]; simp; omega)
      ·exact ⟨by simp only [List.length_append, List.length_cons, List.length_nil]; omega, MV h (iT _)⟩
     ·exact ⟨by simp only; omega, h⟩
   refine ⟨hF, hA, fun s => ?_, hO, fun s => ?_⟩
   ·rw [ZN]; exact hA [] s trivial oz
   ·rw [ZR]; exact hO [] s trivial oz
end
end Go.Rt
set_option maxRecDepth 10000
namespace Go.Proofs.YtkmkbndcekklmaaGreatDoor
open Go Go.Sx Go.Rt Go.Proofs Tryz
instance : Inhabited CR := ⟨CR.none⟩
def PrnC (c : CR) : Prop := ∀ (H : Heap) (n : Nat), Ret prog 73 [c.av] H n (.str c.prn) H n
theorem joinK_take {k : List UInt8} {l : List CR} {i : Nat} (h : i < l.length) : Yr k (MK (l.take (i + 1))) = (if i = 0 then [] else Yr k (MK (l.take i)) ++ [32] ++ k ++ [32]) ++ (l.getD i default).prn := by
 have e : l.take (i + 1) = l.take i ++ [l.getD i default] := by rw [List.take_succ_eq_append_getElem h]; simp [List.getD, h]
 rw [e, prns_snoc]
 by_cases h0 : i = 0
 ·subst h0; rw [if_pos rfl]; simp [MK, Yr]
 ·rw [if_neg h0, LM _ _ _ (by rw [MP]; cases l with | nil => simp at h | cons a l => cases i with | zero => exact absurd rfl h0 | succ i => simp)]
theorem joinK_pre (k : List UInt8) (a b : List (List UInt8)) : (Yr k a).length ≤ (Yr k (a ++ b)).length := by
 cases a with
 | nil => simp [Yr]
 | cons x l => simp [Yr]
theorem joinK_len {k : List UInt8} {l : List CR} (i : Nat) : (Yr k (MK (l.take i))).length ≤ (Yr k (MK l)).length := by
 have := joinK_pre k (MK (l.take i)) (MK (l.drop i))
 rwa [MP, MP, ← List.map_append, List.take_append_drop, ← MP, ← MP] at this
theorem NF50.eqs {P Q : Prop} (g : Imp P Q := by (try simp only [go_sem, seval, Xa, Y3, YG, Yn, hnth, e1, r1, Nat.add_assoc, List.length_map, List.length_append, List.length_cons, List.length_nil, Int.toNat_natCast, MQ]); exact MI) : Imp P Q := g
set_option maxHeartbeats 3200000 in
open NF50 NY in
theorem c_prn_ors (k : List UInt8) (hk : k = wOr ∨ k = wAnd) (l : List CR) (hll : l.length ≤ 1048576) (h : ∀ c ∈ l, PrnC c) (s t : List UInt8) (m : Int) (hB : (Yr k (MK l)).length ≤ 4294967296) : PrnC (.nd k l s t m) := fun H n => by
 have hR : (CR.nd k l s t m).prn = Yr k (MK l) := by unfold CR.prn; rw [if_pos hk]
 rw [hR]
 unfold CR.av
 rw [MQ]
 have hkl : k.length ≤ 3 := by rcases hk with rfl | rfl <;> decide
 have hkd : k = [111, 114] ∨ k = [97, 110, 100] := hk
 have hnth := hll
 have e1 := hll
 have r1 := hll
 refine Ret.fin ?_
 refine fw func73 ntmps73 results73 ?_
 refine rg zs [1] ?_
 refine Zb fun K1 hK1 => ?_
 refine rg zs [1, 7] ?_
 refine kbM ?_
 refine Yb [1, 7, 8] (fun T' H' n' => T' = tl [(1, .loc n 0 0 0 []), (7, .str k), (8, .bool true)] ∧ H' = H.put n (some (.arr 0 5 [.agg [.str k, .sl 5 (l.map CR.av), .str s, .str t, .int .i64 m]])) ∧ n' = n + 1) ?_ ?_
 ·refine rg zs [1, 7, 8] ?_
  refine Za ?_ ?_ <;> intro hb
  ·refine ak ?_
   refine ns ?_
   first
   | (have hz : k = [111, 114] := osb
      subst hz; rfl)
   | (have hz := hkd.resolve_left osb
      subst hz; rfl)
  refine rg1 zs [1, 7, 8] ?_
  refine ns ?_
  first
  | (have hz : k = [111, 114] := osb
     subst hz; rfl)
  | (have hz := hkd.resolve_left osb
     subst hz; rfl)
 rintro T8 H8 n8 ⟨rfl, rfl, rfl⟩
 refine Za ?_ ?_ <;> intro hb
 ·refine rg zs [1, 3] ?_
  refine Zb fun K2 hK2 => ?_
  refine rg zs [1, 3, 4] ?_
  refine kbM ?_
  refine Zo (fun T' H' n' => ∃ i : Nat, i ≤ l.length ∧ T' = tl [(1, .loc n 0 0 0 []), (3, .str (Yr k (MK (l.take i)))), (4, .int .i64 i)] ∧ H' n = some (.arr 0 5 [.agg [.str k, .sl 5 (l.map CR.av), .str s, .str t, .int .i64 m]]) ∧ (∀ k, k < n → H' k = H k) ∧ n' = n + 1) (fun T' _ _ => l.length - iv (T' 4)) ?_ ?_
  ·exact ⟨0, Nat.zero_le _, rfl, oh, fun k hk => oh, rfl⟩
  rintro T1 H1 n1 ⟨i, hi, rfl, r1, hlow, rfl⟩
  refine Zb fun K3 hK3 => ?_
  refine rg zs [1, 3, 4, 15] ?_
  refine Za ?_ ?_ <;> intro hb
  ·have hci : i < l.length := ott
   have hnth : nth (l.map CR.av) i = (l.getD i default).av := ZP CR.av l i hci
   have hcl := Wv l hci
   have e1 : IntKind.i64.wrap ((i : Int) + 1) = ((i + 1 : Nat) : Int) := w1 om
   have hj := joinK_take (k := k) hci
   have hl1 := joinK_len (k := k) (l := l) (i + 1)
   rw [hj] at hl1
   simp only [List.length_append] at hl1
   refine ak ?_
   apply hK3
   refine bk fun K4 hK4 => ?_
   refine Yb [1, 3, 4] (fun T' H' n' => T' = tl [(1, .loc n 0 0 0 []), (3, .str (if i = 0 then [] else Yr k (MK (l.take i)) ++ [32] ++ k ++ [32])), (4, .int .i64 i)] ∧ H' = H1 ∧ n' = n + 1) ?_ ?_
   ·refine rg zs [1, 3, 4, 19] ?_
    refine Za ?_ ?_ <;> intro hb
    ·have h0 : i ≠ 0 := ott
     rw [if_neg h0] at hl1
     simp only [List.length_append, List.length_cons, List.length_nil] at hl1
     refine rg1 zs [1, 3, 4] ?_
     refine ns ?_
     first | rw [if_neg h0] | (subst h0; rfl)
    have h0 : i = 0 := otf
    refine ak ?_
    refine ns ?_
    first | rw [if_neg h0] | (subst h0; rfl)
   rintro T9 H9 n9 ⟨rfl, rfl, rfl⟩
   refine rc1 zs [1, 3, 4] func73 ((h _ hcl _ _)) ?_
   apply hK4
   refine rg1 zs [1, 3, 4] ?_
   exact ⟨⟨i + 1, om, by rw [hj], hlow⟩, om⟩
  have hci : l.take i = l := List.take_of_length_le otf
  rw [hci] at *
  refine ax ?_
  apply hK2
  refine kal ?_
  refine ⟨_, rfl, fun k hk => by first | exact hlow k hk | (try simp only [MG]); (repeat first | rw [if_pos rfl] | rw [if_pos trivial] | rw [if_neg om]), Frz.eq rfl trivial⟩
 exact kaJ
theorem NF51.eqs {P Q : Prop} (g : Imp P Q := by (try simp only [go_sem, seval, Xa, Y3, YG, Yn, Nat.add_assoc, List.length_map, List.length_append, List.map_cons, List.map_nil, List.length_cons, List.length_nil, Int.toNat_natCast, MQ]); exact MI) : Imp P Q := g
open NF51 NY in
theorem c_prn_not (c : CR) (h : PrnC c) (s t : List UInt8) (m : Int) (hB : c.prn.length ≤ 4294967296) : PrnC (.nd wNot [c] s t m) := fun H n => by
 have hR : (CR.nd wNot [c] s t m).prn = wNot ++ [32] ++ c.prn := rfl
 rw [hR]
 unfold CR.av wNot
 rw [MQ]
 refine Ret.fin ?_
 refine fw func73 ntmps73 results73 ?_
 refine rg zs [1] ?_
 refine Zb fun K1 hK1 => ?_
 refine rg zs [1, 7] ?_
 refine kbM ?_
 refine Zb fun K2 hK2 => ?_
 refine rg zs [1, 7, 8] ?_
 refine Za ?_ ?_ <;> intro hb
 ·exact kaJ
 refine rg1 zs [1, 7, 8] ?_
 apply hK2
 refine Za ?_ ?_ <;> intro hb
 ·exact kaJ
 refine rg zs [1, 7, 35] ?_
 refine Za ?_ ?_ <;> intro hb
 ·refine rc zs [2] func73 ((h _ _)) ?_
  exact kbx
 exact kaJ
open NF51 NY in
theorem c_prn_in (c : CR) (h : PrnC c) (s t : List UInt8) (m : Int) (hB : c.prn.length ≤ 4294967296) : PrnC (.nd wIn [c] s t m) := fun H n => by
 have hR : (CR.nd wIn [c] s t m).prn = [40] ++ c.prn ++ [41] := rfl
 rw [hR]
 unfold CR.av wIn
 rw [MQ]
 refine Ret.fin ?_
 refine fw func73 ntmps73 results73 ?_
 refine rg zs [1] ?_
 refine Zb fun K1 hK1 => ?_
 refine rg zs [1, 7] ?_
 refine kbM ?_
 refine Zb fun K2 hK2 => ?_
 refine rg zs [1, 7, 8] ?_
 refine Za ?_ ?_ <;> intro hb
 ·exact kaJ
 refine rg1 zs [1, 7, 8] ?_
 apply hK2
 refine Za ?_ ?_ <;> intro hb
 ·exact kaJ
 refine rg zs [1, 7, 35] ?_
 refine Za ?_ ?_ <;> intro hb
 ·exact kaJ
 refine rg zs [1, 43] ?_
 refine Za ?_ ?_ <;> intro hb
 ·refine rc zs [2] func73 ((h _ _)) ?_
  exact kbx
 exact kaJ
theorem NF52.eqs {P Q : Prop} (g : Imp P Q := by (try simp only [go_sem, seval, Xa, Y3, YG, Yn, Nat.add_assoc, List.length_map, List.length_append, List.length_cons, List.length_nil, Int.toNat_natCast, MQ, d1, d2, d3, d4, decide_false]); exact MI) : Imp P Q := g
set_option maxHeartbeats 3200000 in
open NF52 NY in
theorem c_prn_leaf (k : List UInt8) (h1 : ¬ (k = wOr ∨ k = wAnd)) (h2 : k ≠ wNot) (h3 : k ≠ wIn) (l : List CR) (s t : List UInt8) (m : Int) (hm : k = wTs → 0 ≤ m ∧ m ≤ 1099511627776) (hB : (CR.nd k l s t m).prn.length ≤ 4294967296) : PrnC (.nd k l s t m) := fun H n => by
 have hR : (CR.nd k l s t m).prn = k ++ [32] ++ s ++ [32] ++ (if k = Z9 ∨ k = ZW then X5 t else if k = wTs then decS m.toNat else t) := by
   unfold CR.prn; rw [if_neg h1, if_neg h2, if_neg h3]
 rw [hR] at hB ⊢
 obtain ⟨what, hw⟩ : ∃ w, w = (if k = Z9 ∨ k = ZW then X5 t else if k = wTs then decS m.toNat else t) := ⟨_, rfl⟩
 rw [← hw] at hB ⊢
 simp only [List.length_append, List.length_cons, List.length_nil] at hB
 unfold CR.av
 rw [MQ]
 have d1 : ¬ k = [111, 114] := fun e => h1 (.inl e)
 have d2 : ¬ k = [97, 110, 100] := fun e => h1 (.inr e)
 have d3 : ¬ k = [110, 111, 116] := h2
 have d4 : ¬ k = [105, 110] := h3
 refine Ret.fin ?_
 refine fw func73 ntmps73 results73 ?_
 refine rg zs [1] ?_
 refine Zb fun K1 hK1 => ?_
 refine rg zs [1, 7] ?_
 refine kbM ?_
 refine Zb fun K2 hK2 => ?_
 refine rg zs [1, 7, 8] ?_
 refine Za ?_ ?_ <;> intro hb
 ·first | exact absurd hb odc | exact absurd hb (by simp [d1, d2])
 refine rg1 zs [1, 7, 8] ?_
 apply hK2
 refine Za ?_ ?_ <;> intro hb
 ·first | exact absurd hb odc | exact absurd hb (by simp [d1, d2])
 refine rg zs [1, 7, 35] ?_
 refine Za ?_ ?_ <;> intro hb
 ·first | exact absurd hb odc | exact absurd hb (by simp [d1, d2, d3])
 refine rg zs [1, 43] ?_
 refine Za ?_ ?_ <;> intro hb
 ·first | exact absurd hb odc | exact absurd hb (by simp [d1, d2, d4])
 refine ak ?_
 apply hK1
 refine rg zs [1, 5] ?_
 refine Yb [1, 5] (fun T' H' n' => T' = tl [(1, .loc n 0 0 0 []), (5, .str (if k = Z9 ∨ k = ZW then X5 t else t))] ∧ H' = H.put n (some (.arr 0 5 [.agg [.str k, .sl 5 (l.map CR.av), .str s, .str t, .int .i64 m]])) ∧ n' = n + 1) ?_ ?_
 ·refine rg zs [1, 5, 61] ?_
  refine Za ?_ ?_ <;> intro hb
  ·have p1 : k = Z9 ∨ k = ZW := by simpa [Z9, ZW] using hb
   rw [if_pos p1] at hw
   have hq := quoteS_len t
   rw [← hw] at hq
   refine rk1 zs [1, 5] fun K V => ?_
   refine ck func109 ((c_ref13_quote t om _ _)) ?_
   refine kas ?_
   refine ns ?_
   refine ns ?_
   first | rw [if_pos p1] | rw [if_neg p1]
  have p1 : ¬ (k = Z9 ∨ k = ZW) := by simpa [Z9, ZW] using hb
  refine ak ?_
  refine ns ?_
  first | rw [if_pos p1] | rw [if_neg p1]
 rintro T8 H8 n8 ⟨rfl, rfl, rfl⟩
 refine Yb [1, 5] (fun T' H' n' => T' = tl [(1, .loc n 0 0 0 []), (5, .str what)] ∧ H' = H.put n (some (.arr 0 5 [.agg [.str k, .sl 5 (l.map CR.av), .str s, .str t, .int .i64 m]])) ∧ n' = n + 1) ?_ ?_
 ·refine rg zs [1, 5, 67] ?_
  refine Za ?_ ?_ <;> intro hb
  ·have p2 : k = wTs := by simpa [wTs] using hb
   obtain ⟨m0, m1⟩ := hm p2
   obtain ⟨m', rfl⟩ : ∃ m' : Nat, m = m' := ⟨m.toNat, om⟩
   have hz : what = decS m' := by rw [hw, if_neg (by rw [p2]; decide), if_pos p2, Int.toNat_natCast]
   refine rk1 zs [1, 5] fun K V => ?_
   refine ck func110 ((KF m' om _ _)) ?_
   refine kas ?_
   refine ns ?_
   refine ns ?_
   rw [hz]
  have p2 : ¬ k = wTs := by simpa [wTs] using hb
  have hz : what = if k = Z9 ∨ k = ZW then X5 t else t := by rw [hw, if_neg p2]
  refine ak ?_
  refine ns ?_
  rw [hz]
 rintro T8 H8 n8 ⟨rfl, rfl, rfl⟩
 refine kal ?_
 exact ⟨_, rfl, fun k hk => oh, Frz.eq osi trivial⟩
theorem prn_le_join (k : List UInt8) : ∀ (l : List CR) (c : CR), c ∈ l → c.prn.length ≤ (Yr k (MK l)).length := fun l c hc => by
 have key : ∀ (l : List (List UInt8)) (a : List UInt8), a ∈ l → a.length ≤ (Yr k l).length := fun l a ha => by
   cases l with
   | nil => cases ha
   | cons b l =>
     rcases List.mem_cons.1 ha with rfl | ha
     ·simp [Yr]
     ·obtain ⟨s, t, rfl⟩ := List.append_of_mem ha
      simp [Yr]; omega
 exact key _ _ (by rw [MP]; exact List.mem_map_of_mem hc)
mutual
theorem c_prn : ∀ c : CR, c.wf → c.small → c.prn.length ≤ 4294967296 → PrnC c
 | .nd k l s t m, hg, hs, hB => by
   unfold CR.wf at hg
   by_cases h1 : k = wOr ∨ k = wAnd
   ·rw [if_pos h1] at hg
    have hR : (CR.nd k l s t m).prn = Yr k (MK l) := by unfold CR.prn; rw [if_pos h1]
    rw [hR] at hB
    exact c_prn_ors k h1 l hs.1 (c_prnL l hg hs.2 fun c hc => Nat.le_trans (prn_le_join k l c hc) hB) s t m hB
   rw [if_neg h1] at hg
   by_cases h2 : k = wNot
   ·rw [if_pos (.inl h2)] at hg
    obtain ⟨⟨c, rfl⟩, hw⟩ := hg
    subst h2
    have hc : c.prn.length ≤ 4294967296 := by
      have hR : (CR.nd wNot [c] s t m).prn = wNot ++ [32] ++ c.prn := rfl
      rw [hR, List.length_append] at hB; omega
    exact c_prn_not c (c_prnL [c] hw hs.2 (fun x hx => by rw [List.mem_singleton.1 hx]; exact hc) c osi) s t m hc
   by_cases h3 : k = wIn
   ·rw [if_pos (.inr h3)] at hg
    obtain ⟨⟨c, rfl⟩, hw⟩ := hg
    subst h3
    have hc : c.prn.length ≤ 4294967296 := by
      have hR : (CR.nd wIn [c] s t m).prn = [40] ++ c.prn ++ [41] := rfl
      rw [hR, List.length_append, List.length_append] at hB; omega
    exact c_prn_in c (c_prnL [c] hw hs.2 (fun x hx => by rw [List.mem_singleton.1 hx]; exact hc) c osi) s t m hc
   rw [if_neg (by rintro (h | h); exact h2 h; exact h3 h)] at hg
   exact c_prn_leaf k h1 h2 h3 l s t m hg hB
theorem c_prnL : ∀ l : List CR, MS l → CR.smalls l → (∀ c ∈ l, c.prn.length ≤ 4294967296) → ∀ c ∈ l, PrnC c
 | [], _, _, _, c, hc => by cases hc
 | a :: l, hg, hs, hB, c, hc => by
   rcases List.mem_cons.1 hc with h | h
   ·rw [h]; exact c_prn a hg.1 hs.1 (hB a osi)
   ·exact c_prnL l hg.2 hs.2 (fun x hx => hB x (by simp [hx])) c h
end
theorem readR_good {fs : List Fml} {t : List UInt8} {x : Tst × List UInt8} (h : YU fs t = .ok x) : (XO fs t).1.good fs ∧ (XO fs t).1.small ∧ (XO fs t).1.tst fs = x.1 := by
 have hr := readR_rel fs t
 rw [h] at hr
 unfold XO at hr ⊢
 by_cases h1 : 512 < t.length
 ·rw [if_pos h1] at hr; simp at hr
 rw [if_neg h1] at hr ⊢
 by_cases h2 : 0 ≤ (Ze t s0R).bad
 ·rw [if_pos h2] at hr; simp only at hr; omega
 rw [if_neg h2] at hr ⊢
 simp only at hr ⊢
 have h3 : (ZR fs t (8 * t.length + 16) (Ze t s0R)).2.bad < 0 := by
   rcases Int.lt_or_le (ZR fs t (8 * t.length + 16) (Ze t s0R)).2.bad 0 with h4 | h4
   ·exact h4
   ·have := hr.1
    rw [if_neg (fun e => by have := e.1; omega)] at this
    omega
 exact ⟨(cr_good _).2.2.2.2 _ om h3, (cr_small _ om).2.2.2.2 _, hr.2⟩
structure WantOK (fs : List Fml) (q : QryE) : Prop where
 sch : ZT fs = 0
 ok : 0 < q.whr.length → ∃ x, YU fs q.whr = .ok x
open N0 in
theorem c_law13_same (a b : List UInt8) (H : Heap) (n : Nat) : Ret prog 26 [bys a, bys b] H n (.bool (a == b)) H n := by
 refine fw func26 ntmps26 results26 ?_
 refine kb1 ?_
 refine rc zs [4] func46 ((c_ref1_Same a b _ _)) ?_
 refine ar ?_
 trivial
open N0 in
theorem VG (e : Int) (H : Heap) (n : Nat) : Ret prog 20 [.int .i64 e] H n (.int .i64 e) H n := by
 refine fw func20 ntmps20 results20 ?_
 refine kcu ?_
 refine kal ?_
 trivial
structure LdS (q : QryE) (k1 k2 k3 k4 kw kf vf : Nat) (H : Heap) : Prop where
 h1 : H k1 = some (Vp (k1, q.frm))
 h2 : H k2 = some (Vp (k2, q.to))
 h3 : H k3 = some (Vp (k3, q.pre))
 h4 : H k4 = some (Vp (k4, q.token))
 hw : H kw = some (.arr 0 1 [WP (k1, q.frm), WP (k2, q.to), WP (k3, q.pre), WP (k4, q.token)])
 hf : H kf = some (.arr vf 1 ((q.fams ++ [-77]).map fun x : Int => (.int .i64 x : AV)))
 d : (k1 ≠ k2 ∧ k1 ≠ k3 ∧ k1 ≠ k4 ∧ k2 ≠ k3 ∧ k2 ≠ k4 ∧ k3 ≠ k4) ∧ (kw ≠ k1 ∧ kw ≠ k2 ∧ kw ≠ k3 ∧ kw ≠ k4) ∧ (kf ≠ k1 ∧ kf ≠ k2 ∧ kf ≠ k3 ∧ kf ≠ k4 ∧ kf ≠ kw)
end Go.Proofs.YtkmkbndcekklmaaGreatDoor
namespace Go.Sx
open Go
end Go.Sx