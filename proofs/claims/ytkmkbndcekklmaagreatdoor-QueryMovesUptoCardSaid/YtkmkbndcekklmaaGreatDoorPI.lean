/- Own layer: the walk through the document's terms and conditions. Of the program; no condition. -/
import Derived.Test.YtkmkbndcekklmaaGreatDoorPH
import Derived.Test.YtkmkbndcekklmaaGreatDoorPF
import Derived.Test.YtkmkbndcekklmaaGreatDoorPG
import Derived.Test.YtkmkbndcekklmaaGreatDoorPD
import Derived.Test.YtkmkbndcekklmaaGreatDoorPE
set_option linter.unusedSimpArgs false
set_option linter.unusedVariables false
set_option maxRecDepth 10000
namespace Go.Proofs.YtkmkbndcekklmaaGreatDoor
open Go Go.Sx Go.Rt Go.Proofs Tryz
def FactC (fs : List Fml) (t : List UInt8) (kr f : Nat) : Prop := ∀ (s : Ro) (H : Heap) (n : Nat), RI t s → 4 * s.m t + 1 ≤ f → kr < n → H kr = some (s.obj fs t) → Ret prog 151 [.loc kr 0 0 0 []] H n (Yf fs t f s).1.av (H.put kr (some ((Yf fs t f s).2.obj fs t))) n
def TermC (fs : List Fml) (t : List UInt8) (kr f : Nat) : Prop := ∀ (s : Ro) (H : Heap) (n : Nat), RI t s → 4 * s.m t + 2 ≤ f → kr < n → H kr = some (s.obj fs t) → Ret prog 139 [.loc kr 0 0 0 []] H n (YF fs t f s).1.av (H.put kr (some ((YF fs t f s).2.obj fs t))) n
def CondC (fs : List Fml) (t : List UInt8) (kr f : Nat) : Prop := ∀ (s : Ro) (H : Heap) (n : Nat), RI t s → 4 * s.m t + 3 ≤ f → kr < n → H kr = some (s.obj fs t) → Ret prog 107 [.loc kr 0 0 0 []] H n (YK fs t f s).1.av (H.put kr (some ((YK fs t f s).2.obj fs t))) n
theorem Wm (c : CR) : c.av.sz = 5 := by cases c; rfl
theorem Wn (c : CR) : c.av.isAgg = true := by cases c; rfl
theorem Xr (c : CR) : c.av.memOK = true := by cases c; rfl
theorem Y7 (g : Bool) (c : CR) : strip g c.av = c.av := by cases c; cases g <;> rfl
mutual
theorem Mk (n : Nat) : ∀ c : CR, c.av.kl n
 | .nd k l s t m => ⟨trivial, Nn n l, trivial, trivial, trivial, trivial⟩
theorem Nn (n : Nat) : ∀ l : List CR, Pq n (Pv l)
 | [] => trivial
 | c :: l => ⟨Mk n c, Nn n l⟩
end
theorem avs_snoc (l : List CR) (c : CR) : Pv (l ++ [c]) = Pv l ++ [c.av] := by rw [PH, PH, List.map_append]; rfl
theorem avs_len (l : List CR) : (Pv l).length = l.length := by rw [PH, List.length_map]
theorem avs_take (l : List CR) : (Pv l).take l.length = Pv l := List.take_of_length_le (by rw [avs_len]; omega)
theorem frzL_kls {H : Heap} {n : Nat} : ∀ l : List AV, Pq n l → FrzL H n l l
 | [], _ => .nil
 | _ :: l, h => .cons (.kl h.1) (frzL_kls l h.2)
theorem frz_ndl {H : Heap} {n k ver e : Nat} {l : List CR} (w s t : List UInt8) (m : Int) (hk : H k = some (.arr ver e (Pv l))) (hn : n ≤ k) (he : e = 5) : Frz H n (.agg [.str w, .osl k ver 0 l.length, .str s, .str t, .int .i64 m]) (CR.nd w l s t m).av := by
 subst he
 refine .agg (.cons (.kl trivial) (.cons ?_ (.cons (.kl trivial) (.cons (.kl trivial) (.cons (.kl trivial) .nil)))))
 refine .osl hk hn (by rw [avs_len]; omega) ?_
 rw [List.drop_zero, avs_take]
 exact frzL_kls _ (Nn n l)
theorem NHc0.eqs {P Q : Prop} (g : Imp P Q := by (try simp only [go_sem, seval, hszs, hags, hmos, hss, g1, g2, g3, g4, g5, g6, f1, f2, f3, f4, f5, f6, hA, hB, hC, hR1, q1, q2, q3, q4, q5, q6, q7, hall, rwAV, Ro.obj, Ro.av, roAV, Wm, Wn, Xr, Y7, avs_len, avs_take]); exact Pm) : Imp P Q := g
theorem NHc0.sd {P : Prop} (g : P := by first | exact ⟨rfl, by (simp [Wm, Xr]; first | done | fail)⟩ | exact ⟨om, .inr trivial, om, om⟩ | fail) : P := g
set_option maxHeartbeats 3200000 in
open NHc0 NZ in
theorem c_ref13_term {fs : List Fml} {t : List UInt8} (ht : t.length ≤ 512) {kr : Nat} : ∀ {f : Nat}, (∀ g, g < f → FactC fs t kr g) → TermC fs t kr f := fun {f} hF s H n hI hm hk hR => by
 obtain ⟨f, rfl⟩ : ∃ q, f = q + 1 := ⟨f - 1, om⟩
 have hszs : (Zi fs).sz = 1 := rfl
 have hags : (Zi fs).isAgg = true := rfl
 have hmos : (Zi fs).memOK = true := rfl
 have hss : ∀ g, strip g (Zi fs) = Zi fs := fun g => by cases g <;> rfl
 have g1 : (kr = n) = False := oz
 have g2 : (kr = n + 1) = False := oz
 have g3 : (kr = n + 2) = False := oz
 have g4 : (n = kr) = False := oz
 have g5 : (n + 1 = kr) = False := oz
 have g6 : (n + 2 = kr) = False := oz
 have f1 : (n = n + 1) = False := osi
 have f2 : (n + 1 = n) = False := osi
 have f3 : (n + 2 = n) = False := osi
 have f4 : (n + 2 = n + 1) = False := osi
 have f5 : (n + 1 = n + 2) = False := osi
 have f6 : (n = n + 2) = False := osi
 have hA := hk
 have hB := hk
 have hC := hk
 have hR1 := hk
 have q1 := hk
 have q2 := hk
 have q3 := hk
 have q4 := hk
 have q5 := hk
 have q6 := hk
 have q7 := hk
 have hall := hk
 have hms : s.m t ≤ 513 := by unfold Ro.m; split; (split <;> omega); omega
 obtain ⟨r, hr⟩ : ∃ r, r = X6 fs t (f + 1) [] s := ⟨_, rfl⟩
 have hv : YF fs t (f + 1) s = (.nd wAnd r.1 [] [] 0, r.2) := by rw [hr]; unfold YF; rfl
 rw [hv]
 refine Ro.fin hk ?_
 refine fw func139 ntmps139 results139 ?_
 refine rg zs [0, 2] ?_
 refine rg zs [0, 2, 3] ?_
 refine Za fun K1 hK1 => ?_
 refine rg zs [0, 2, 3, 4] ?_
 refine kbM ?_
 refine Yq (n + 1) 5 (ver := 0) (e := 5) (els := [.agg [.str wAnd, .nilsl, .str [], .str [], .int .i64 0]]) (els' := [.agg [.str wAnd, .osl (n + 2) 0 0 0, .str [], .str [], .int .i64 0]]) (by simp [Heap.put, wAnd]) ⟨Adp.agg ⟨.refl _ _, Adp.nilsl _, .refl _ _, .refl _ _, .refl _ _, trivial⟩, trivial⟩ ?_
 refine Zp (fun T' H' n' => ∃ (g : Nat) (l : List CR) (s1 : Ro) (ver j : Nat) (more : Bool), (if more then X6 fs t g l s1 = r ∧ 4 * s1.m t + 2 + 0 ≤ g ∧ g ≤ f + 1 ∧ RI t s1 ∧ j + s1.m t ≤ s.m t else (l, s1) = r) ∧ s1.p ≤ t.length ∧ j ≤ s.m t + 1 ∧ l.length = j ∧ T' = tl [(0, .loc kr 0 0 0 []), (2, .loc n 0 0 0 []), (3, .loc (n + 1) 0 0 0 []), (4, .bool more)] ∧ H' (n + 1) = some (.arr 0 5 [.agg [.str wAnd, .osl (n + 2) ver 0 l.length, .str [], .str [], .int .i64 0]]) ∧ H' (n + 2) = some (.arr ver 5 (Pv l)) ∧ H' n = some (.arr 0 5 [.agg [.str [], .nilsl, .str [], .str [], .int .i64 0]]) ∧ H' kr = some (s1.obj fs t) ∧ (∀ k, k < n → k ≠ kr → H' k = H k) ∧ n' = n + 3 + j) (fun _ _ n' => s.m t + 5 + n - n') ?_ ?_
 ·exact ⟨f + 1, [], s, 0, 0, true, by rw [if_pos rfl]; exact ⟨hr.symm, om, Nat.le_refl _, hI, om⟩, hI.p, om, rfl, rfl, by simp [Heap.put, wAnd], by simp [Heap.put, Pv], by simp [Heap.put], ohx hR, fun k h1 h2 => oh, om⟩
 rintro T1 H1 n1 ⟨g, l, s1, ver, j, more, hinv, hp1, hj, hlj, rfl, hA, hB, hC, hR2, hlow, rfl⟩
 have hR1 := hR2
 unfold Ro.obj Ro.av roAV rwAV at hR1
 refine Za fun K2 hK2 => ?_
 refine rg zs [0, 2, 3, 14] ?_
 refine Zb ?_ ?_ <;> intro hb
 ·have hmm := Wt hb
  obtain rfl : more = true := hmm.1
  have hbad : s1.bad < 0 := of_decide_eq_true hmm.2
  rw [if_pos rfl] at hinv
  obtain ⟨hrr, hg1, hg2, hRI, hjm⟩ := hinv
  obtain ⟨g, rfl⟩ : ∃ q, g = q + 1 := ⟨g - 1, om⟩
  rw [X6, if_pos hbad] at hrr
  have hgo := (VM (fs := fs) ht g).2.2.2.2 s1 hp1
  have hRI2 := hgo.ri hRI hbad
  obtain ⟨y, hy⟩ : ∃ y, y = Yf fs t g s1 := ⟨_, rfl⟩
  have cF := fun H n a b => hy ▸ hF g om s1 H n hRI om a b
  rw [← hy] at hrr hgo hRI2
  clear hy
  have q1 : (kr = n + 3 + j) = False := oz
  have q2 : (n + 1 = n + 3 + j) = False := oz
  have q3 : (n + 2 = n + 3 + j) = False := oz
  have q4 : (n = n + 3 + j) = False := oz
  have q5 : (n + 3 + j = kr) = False := oz
  have q6 : (n + 3 + j = n + 1) = False := oz
  have q7 : (n + 3 + j = n + 2) = False := oz
  have hks : ∀ {H9 : Heap} {X : Option AObj} {n9 : Nat}, n + 3 + j < n9 → True := fun _ => trivial
  refine kaQ ?_
  refine bk fun K3 hK3 => ?_
  refine rk zs [0, 2, 3, 5] fun K V => ?_
  refine ck func151 ((cF _ _ om hR2)) ?_
  refine kas ?_
  refine rg1 zs [0, 2, 3] ?_
  apply hK3
  refine rk1 zs [0, 2, 3, 4] fun K V => ?_
  refine ck func138 ((VR fs t y.2 kr ht hgo.p 110 wAnd _ _ om ohr)) ?_
  refine kas ?_
  refine ns ?_
  refine ⟨⟨g, l ++ [y.1], isS t 110 wAnd y.2, ver + 1, j + 1, isB 110 wAnd y.2, ?_, (La ht hgo.p odc).p, om, oz, rfl, ?_⟩, om⟩
  ·by_cases hi : isB 110 wAnd y.2 = true
   ·exact kbD
   ·rw [if_neg hi] at hrr ⊢; rw [show isS t 110 wAnd y.2 = y.2 by unfold isS; rw [if_neg hi]]; exact hrr
  ·exact kcf
 have hrr : (l, s1) = r := by
   cases more with
   | false => exact hinv
   | true => rw [if_pos rfl] at hinv; rw [← hinv.1, andsR_bad _ _ otf]
 refine ax ?_
 apply hK1
 refine kal ?_
 exact kbW
set_option maxHeartbeats 3200000 in
open NHc0 NZ in
theorem c_ref13_cond {fs : List Fml} {t : List UInt8} (ht : t.length ≤ 512) {kr : Nat} : ∀ {f : Nat}, (∀ g, g < f → TermC fs t kr g) → CondC fs t kr f := fun {f} hF s H n hI hm hk hR => by
 obtain ⟨f, rfl⟩ : ∃ q, f = q + 1 := ⟨f - 1, om⟩
 have hszs : (Zi fs).sz = 1 := rfl
 have hags : (Zi fs).isAgg = true := rfl
 have hmos : (Zi fs).memOK = true := rfl
 have hss : ∀ g, strip g (Zi fs) = Zi fs := fun g => by cases g <;> rfl
 have g1 : (kr = n) = False := oz
 have g2 : (kr = n + 1) = False := oz
 have g3 : (kr = n + 2) = False := oz
 have g4 : (n = kr) = False := oz
 have g5 : (n + 1 = kr) = False := oz
 have g6 : (n + 2 = kr) = False := oz
 have f1 : (n = n + 1) = False := osi
 have f2 : (n + 1 = n) = False := osi
 have f3 : (n + 2 = n) = False := osi
 have f4 : (n + 2 = n + 1) = False := osi
 have f5 : (n + 1 = n + 2) = False := osi
 have f6 : (n = n + 2) = False := osi
 have hA := hk
 have hB := hk
 have hC := hk
 have hR1 := hk
 have q1 := hk
 have q2 := hk
 have q3 := hk
 have q4 := hk
 have q5 := hk
 have q6 := hk
 have q7 := hk
 have hall := hk
 have hms : s.m t ≤ 513 := by unfold Ro.m; split; (split <;> omega); omega
 obtain ⟨r, hr⟩ : ∃ r, r = orsR fs t (f + 1) [] s := ⟨_, rfl⟩
 have hv : YK fs t (f + 1) s = (.nd wOr r.1 [] [] 0, r.2) := by rw [hr]; unfold YK; rfl
 rw [hv]
 refine Ro.fin hk ?_
 refine fw func107 ntmps107 results107 ?_
 refine rg zs [0, 2] ?_
 refine rg zs [0, 2, 3] ?_
 refine Za fun K1 hK1 => ?_
 refine rg zs [0, 2, 3, 4] ?_
 refine kbM ?_
 refine Yq (n + 1) 5 (ver := 0) (e := 5) (els := [.agg [.str wOr, .nilsl, .str [], .str [], .int .i64 0]]) (els' := [.agg [.str wOr, .osl (n + 2) 0 0 0, .str [], .str [], .int .i64 0]]) (by simp [Heap.put, wOr]) ⟨Adp.agg ⟨.refl _ _, Adp.nilsl _, .refl _ _, .refl _ _, .refl _ _, trivial⟩, trivial⟩ ?_
 refine Zp (fun T' H' n' => ∃ (g : Nat) (l : List CR) (s1 : Ro) (ver j : Nat) (more : Bool), (if more then orsR fs t g l s1 = r ∧ 4 * s1.m t + 2 + 1 ≤ g ∧ g ≤ f + 1 ∧ RI t s1 ∧ j + s1.m t ≤ s.m t else (l, s1) = r) ∧ s1.p ≤ t.length ∧ j ≤ s.m t + 1 ∧ l.length = j ∧ T' = tl [(0, .loc kr 0 0 0 []), (2, .loc n 0 0 0 []), (3, .loc (n + 1) 0 0 0 []), (4, .bool more)] ∧ H' (n + 1) = some (.arr 0 5 [.agg [.str wOr, .osl (n + 2) ver 0 l.length, .str [], .str [], .int .i64 0]]) ∧ H' (n + 2) = some (.arr ver 5 (Pv l)) ∧ H' n = some (.arr 0 5 [.agg [.str [], .nilsl, .str [], .str [], .int .i64 0]]) ∧ H' kr = some (s1.obj fs t) ∧ (∀ k, k < n → k ≠ kr → H' k = H k) ∧ n' = n + 3 + j) (fun _ _ n' => s.m t + 5 + n - n') ?_ ?_
 ·exact ⟨f + 1, [], s, 0, 0, true, by rw [if_pos rfl]; exact ⟨hr.symm, om, Nat.le_refl _, hI, om⟩, hI.p, om, rfl, rfl, by simp [Heap.put, wOr], by simp [Heap.put, Pv], by simp [Heap.put], ohx hR, fun k h1 h2 => oh, om⟩
 rintro T1 H1 n1 ⟨g, l, s1, ver, j, more, hinv, hp1, hj, hlj, rfl, hA, hB, hC, hR2, hlow, rfl⟩
 have hR1 := hR2
 unfold Ro.obj Ro.av roAV rwAV at hR1
 refine Za fun K2 hK2 => ?_
 refine rg zs [0, 2, 3, 14] ?_
 refine Zb ?_ ?_ <;> intro hb
 ·have hmm := Wt hb
  obtain rfl : more = true := hmm.1
  have hbad : s1.bad < 0 := of_decide_eq_true hmm.2
  rw [if_pos rfl] at hinv
  obtain ⟨hrr, hg1, hg2, hRI, hjm⟩ := hinv
  obtain ⟨g, rfl⟩ : ∃ q, g = q + 1 := ⟨g - 1, om⟩
  rw [orsR, if_pos hbad] at hrr
  have hgo := (VM (fs := fs) ht g).2.2.1 s1 hp1
  have hRI2 := hgo.ri hRI hbad
  obtain ⟨y, hy⟩ : ∃ y, y = YF fs t g s1 := ⟨_, rfl⟩
  have cF := fun H n a b => hy ▸ hF g om s1 H n hRI om a b
  rw [← hy] at hrr hgo hRI2
  clear hy
  have q1 : (kr = n + 3 + j) = False := oz
  have q2 : (n + 1 = n + 3 + j) = False := oz
  have q3 : (n + 2 = n + 3 + j) = False := oz
  have q4 : (n = n + 3 + j) = False := oz
  have q5 : (n + 3 + j = kr) = False := oz
  have q6 : (n + 3 + j = n + 1) = False := oz
  have q7 : (n + 3 + j = n + 2) = False := oz
  have hks : ∀ {H9 : Heap} {X : Option AObj} {n9 : Nat}, n + 3 + j < n9 → True := fun _ => trivial
  refine kaQ ?_
  refine bk fun K3 hK3 => ?_
  refine rk zs [0, 2, 3, 5] fun K V => ?_
  refine ck func139 ((cF _ _ om hR2)) ?_
  refine kas ?_
  refine rg1 zs [0, 2, 3] ?_
  apply hK3
  refine rk1 zs [0, 2, 3, 4] fun K V => ?_
  refine ck func138 ((VR fs t y.2 kr ht hgo.p 110 wOr _ _ om ohr)) ?_
  refine kas ?_
  refine ns ?_
  refine ⟨⟨g, l ++ [y.1], isS t 110 wOr y.2, ver + 1, j + 1, isB 110 wOr y.2, ?_, (La ht hgo.p odc).p, om, oz, rfl, ?_⟩, om⟩
  ·by_cases hi : isB 110 wOr y.2 = true
   ·exact kbD
   ·rw [if_neg hi] at hrr ⊢; rw [show isS t 110 wOr y.2 = y.2 by unfold isS; rw [if_neg hi]]; exact hrr
  ·exact kcf
 have hrr : (l, s1) = r := by
   cases more with
   | false => exact hinv
   | true => rw [if_pos rfl] at hinv; rw [← hinv.1, M5 _ _ otf]
 refine ax ?_
 apply hK1
 refine kal ?_
 exact kbW
theorem frz_nd1 {H : Heap} {n k ver : Nat} {c : CR} (w s t : List UInt8) (m : Int) (hk : H k = some (.arr ver 5 [c.av])) (hn : n ≤ k) : Frz H n (.agg [.str w, .osl k ver 0 1, .str s, .str t, .int .i64 m]) (CR.nd w [c] s t m).av :=
 frz_ndl (l := [c]) w s t m hk hn rfl
theorem NHd0.eqs {P Q : Prop} (g : Imp P Q := by (try simp only [go_sem, seval, hR1, hszs, hags, hmos, hss, g1, g2, g3, g4, g5, g6, g7, g8, f1, f2, f3, f4, f5, f6, f7, f8, f9, h1, h2, h3, rwAV, Ro.obj, Ro.av, roAV, Wm, Wn, Xr, Y7, hN, hG, Bool.false_eq_true, if_false, if_true]); exact Pm) : Imp P Q := g
theorem NHd0.inz {P Q : Prop} (g : Imp P Q := by refine Imp.up eqs ?_; (repeat (first | (refine Imp.nd ?_ ?_; · first | exact ⟨rfl, by (simp [Wm, Xr]; first | done | fail)⟩) | refine Imp.pl ?_)); exact Pm) : Imp P Q := g
set_option maxHeartbeats 3200000 in
open NHd0 in
theorem c_ref13_fact {fs : List Fml} (hfs : fs.length ≤ 1048576) {t : List UInt8} (ht : t.length ≤ 512) {kr : Nat} : ∀ {f : Nat}, (∀ g, g < f → FactC fs t kr g ∧ CondC fs t kr g) → FactC fs t kr f := fun {f} hF s H n hI hm hk hR => by
 obtain ⟨f, rfl⟩ : ∃ q, f = q + 1 := ⟨f - 1, by omega⟩
 have hszs : (Zi fs).sz = 1 := rfl
 have hags : (Zi fs).isAgg = true := rfl
 have hmos : (Zi fs).memOK = true := rfl
 have hss : ∀ g, strip g (Zi fs) = Zi fs := fun g => by cases g <;> rfl
 have g1 : (kr = n) = False := by simp; omega
 have g2 : (kr = n + 1) = False := by simp; omega
 have g3 : (kr = n + 2) = False := by simp; omega
 have g4 : (n = kr) = False := by simp; omega
 have g5 : (n + 1 = kr) = False := by simp; omega
 have g6 : (n + 2 = kr) = False := by simp; omega
 have g7 : (n + 3 = kr) = False := by simp; omega
 have g8 : (kr = n + 3) = False := by simp; omega
 have f1 : (n = n + 1) = False := by simp
 have f2 : (n + 1 = n) = False := by simp
 have f3 : (n + 2 = n) = False := by simp
 have f4 : (n + 2 = n + 1) = False := by simp
 have f5 : (n + 1 = n + 2) = False := by simp
 have f6 : (n = n + 2) = False := by simp
 have f7 : (n = n + 3) = False := by simp
 have f8 : (n + 1 = n + 3) = False := by simp
 have f9 : (n + 2 = n + 3) = False := by simp
 have h1 : (n + 3 = n) = False := by simp
 have h2 : (n + 3 = n + 1) = False := by simp
 have h3 : (n + 3 = n + 2) = False := by simp
 have hR1 := hR
 unfold Ro.obj Ro.av roAV rwAV at hR1
 have hp := hI.p
 have p1 := UZ (s := s) ht hp
 have ho1 := YQ t s
 have hms : s.m t ≤ 513 := by unfold Ro.m; split; (split <;> omega); omega
 have m1 : s.bad < 0 → s.w.kind ≠ 101 → (Zm t s).m t + 1 ≤ s.m t := fun a b => nextR_m ht hp a b
 obtain ⟨s1, hs1⟩ : ∃ x, x = Zm t s := ⟨_, rfl⟩
 obtain ⟨r, hr⟩ : ∃ r, r = Yf fs t (f + 1) s := ⟨_, rfl⟩
 rw [← hr]
 rw [Yf, ← hs1] at hr
 rw [← hs1] at p1 m1 ho1
 have c1 := fun k w H n a b => VR fs t s kr ht hp k w H n a b
 unfold isS at c1
 rw [← hs1] at c1
 clear hs1
 have hN := hk
 have hG := hk
 refine Ro.fin hk ?_
 refine fw func151 ntmps151 results151 ?_
 refine rg zs [0, 2] ?_
 refine rg zs [0, 2, 3] ?_
 refine rk zs [0, 2, 3, 4] fun K V => ?_
 refine ck func138 ((c1 110 wNot _ _ (by omega) (by (try simp only [Pj]); (repeat rw [if_neg (by omega)]); exact hR))) ?_
 apply V; clear V K
 rcases (show (isB 110 wNot s = false ∧ isB 103 [40] s = false) ∨ (isB 110 wNot s = false ∧ isB 103 [40] s = true) ∨ isB 110 wNot s = true by cases isB 110 wNot s <;> cases isB 103 [40] s <;> simp) with ⟨hN, hG⟩ | ⟨hN, hG⟩ | hN
 ·rw [if_neg (by rw [hN]; simp), if_neg (by rw [hG]; simp)] at hr
  refine rk zs [0, 2, 3, 4, 5] fun K V => ?_
  refine ⟨fun _ => ?_, fun hg => absurd hg (by simp)⟩; refine Zo func138 rfl rfl rfl (c1 103 [40] _ _ (by omega) (by (try simp only [Pj]); (repeat first | rw [if_pos rfl] | rw [if_neg (by omega)]); rfl)) ?_
  refine nz ?_
  apply V; clear V K
  refine Za fun K1 hK1 => ?_
  refine rg zs [0, 2, 3, 4, 26] ?_
  refine Zb ?_ ?_ <;> intro hb
  ·exact absurd hb (by simp)
  refine ak ?_
  apply hK1
  refine rk zs [2] fun K V => ?_
  refine ck func157 ((c_ref13_test fs hfs t s kr ht hp _ _ (by omega) (by (try simp only [Pj]); (repeat first | rw [if_pos rfl] | rw [if_neg (by omega)]); rfl))) ?_
  apply V; clear V K
  refine ar ?_
  rw [hr]
  exact ⟨_, rfl, .kl (Mk _ _), rfl, fun k hk1 hk2 => by (repeat rw [if_neg (by omega)])⟩
 ·rw [if_neg (by rw [hN]; simp), if_pos hG] at hr
  obtain ⟨b1, b2, _⟩ := Xq hG
  refine rk zs [0, 2, 3, 4, 5] fun K V => ?_
  refine ⟨fun _ => ?_, fun hg => absurd hg (by simp)⟩; refine Zo func138 rfl rfl rfl (c1 103 [40] _ _ (by omega) (by (try simp only [Pj]); (repeat first | rw [if_pos rfl] | rw [if_neg (by omega)]); rfl)) ?_
  refine nz ?_
  apply V; clear V K
  refine Za fun K1 hK1 => ?_
  refine rg zs [0, 2, 3, 4, 26] ?_
  refine Zb ?_ ?_ <;> intro hb
  ·have hm1 := m1 b1 (by omega)
   have hso := hI.g b1
   have e0 : IntKind.i64.wrap ((s1.o : Int) + 1) = ((s1.o + 1 : Nat) : Int) := by rw [w64 (by omega) (by omega)]; omega
   refine Zf zs [0, 2, 3, 4] fun K V => ?_
   try simp only [go_sem, seval, hR1, hszs, hags, hmos, hss, g1, g2, g3, g4, g5, g6, g7, g8, f1, f2, f3, f4, f5, f6, f7, f8, f9, h1, h2, h3, rwAV, Ro.obj, Ro.av, roAV, Wm, Wn, Xr, Y7, hN, hG, Bool.false_eq_true, if_false, if_true, e0]
   repeat refine peel ?_
   apply V; clear V K
   refine Za fun K2 hK2 => ?_
   refine rg zs [0, 2, 3, 4, 38] ?_
   refine Zb ?_ ?_ <;> intro hb
   ·have hd : 16 < s1.o + 1 := by have := of_decide_eq_true hb; omega
    rw [if_pos hd] at hr
    refine rg zs [2] ?_
    refine rg zs [2] ?_
    refine ar ?_
    rw [hr]
    exact ⟨_, rfl, VL _ _ _ _, rfl, fun k hk1 hk2 => by (repeat rw [if_neg (by omega)])⟩
   have hd : ¬ 16 < s1.o + 1 := by have := of_decide_eq_false hb; omega
   rw [if_neg hd] at hr
   have hI2 : RI t { s1 with o := s1.o + 1 } := ⟨p1, by simp only; omega, fun _ => by simp only; omega⟩
   have hm2 : Ro.m t { s1 with o := s1.o + 1 } = s1.m t := rfl
   obtain ⟨y, hy⟩ : ∃ y, y = Yf fs t f { s1 with o := s1.o + 1 } := ⟨_, rfl⟩
   obtain ⟨z, hz⟩ : ∃ z, z = YK fs t f { s1 with o := s1.o + 1 } := ⟨_, rfl⟩
   have hyo := ((VM (fs := fs) ht f).2.2.2.2 { s1 with o := s1.o + 1 } p1)
   have hzo := ((VM (fs := fs) ht f).1 { s1 with o := s1.o + 1 } p1)
   have cY := fun H n a b => hy ▸ (hF f (by omega)).1 { s1 with o := s1.o + 1 } H n hI2 (by omega) a b
   have cZ := fun H n a b => hz ▸ (hF f (by omega)).2 { s1 with o := s1.o + 1 } H n hI2 (by omega) a b
   rw [← hy] at hyo
   rw [← hz] at hzo
   simp only [← hy, ← hz] at hr
   clear hy hz
   have hyo1 := hyo.o; have hyo2 := hyo.o2; have hzo1 := hzo.o; have hzo2 := hzo.o2
   simp only at hyo1 hyo2 hzo1 hzo2
   have e1 : IntKind.i64.wrap ((y.2.o : Int) - 1) = ((y.2.o - 1 : Nat) : Int) := by rw [w64 (by omega) (by omega)]; omega
   obtain ⟨u, hu⟩ : ∃ u, u = isS t 103 [41] z.2 := ⟨_, rfl⟩
   have cU := fun H n a b => hu ▸ VR fs t z.2 kr ht hzo.p 103 [41] H n a b
   have huo : u.o = z.2.o := by rw [hu]; unfold isS; split; exact YQ _ _; rfl
   try simp only [← hu] at hr
   clear hu
   refine ak ?_
   apply hK2
   refine rg zs [0, 2, 4, 6] ?_
   refine Za fun K3 hK3 => ?_
   refine rg zs [0, 2, 6, 45] ?_
   refine Zb ?_ ?_ <;> intro hb
   ·exact absurd hb (by simp)
   refine rg zs [0, 2, 6] ?_
   refine rk zs [0, 2, 6, 8] fun K V => ?_
   refine ck func107 ((cZ _ _ (by omega) (by (try simp only [Pj]); (repeat first | rw [if_pos rfl] | rw [if_neg (by omega)]); rfl))) ?_
   apply V; clear V K
   refine Yq (n + 1) 5 (ver := 0) (e := 5) (els := [.agg [.str wIn, .nilsl, .str [], .str [], .int .i64 0]]) (els' := [.agg [.str wIn, .osl (n + 3) 0 0 0, .str [], .str [], .int .i64 0]]) (by simp [Heap.put, wIn, g5]) ⟨Adp.agg ⟨.refl _ _, Adp.nilsl _, .refl _ _, .refl _ _, .refl _ _, trivial⟩, trivial⟩ ?_
   refine rg zs [0, 2, 6] ?_
   refine rk zs [0, 2, 6, 9] fun K V => ?_
   refine ck func138 ((cU _ _ (by omega) (by (try simp only [Pj]); (repeat first | rw [if_pos rfl] | rw [if_neg (by omega)]); rfl))) ?_
   apply V; clear V K
   refine rg zs [0, 2, 6, 73] ?_
   refine Zb ?_ ?_ <;> intro hb
   ·have hz3 := Wt hb
    rw [if_pos ⟨of_decide_eq_true hz3.1, by simpa using hz3.2⟩] at hr
    have hwo : (YV t u).o = u.o := (XW _ _).2.1
    have e1 : IntKind.i64.wrap (((YV t u).o : Int) - 1) = (((YV t u).o - 1 : Nat) : Int) := by rw [w64 (by omega) (by omega)]; omega
    refine rk1 zs [0, 2, 6] fun K V => ?_
    refine ck func108 ((XM fs t u kr _ _ (by omega) (by (try simp only [Pj]); (repeat first | rw [if_pos rfl] | rw [if_neg (by omega)]); rfl))) ?_
    apply V; clear V K
    refine ns ?_
    apply hK3
    refine Zf zs [2, 6] fun K V => ?_
    try simp only [go_sem, seval, hR1, hszs, hags, hmos, hss, g1, g2, g3, g4, g5, g6, g7, g8, f1, f2, f3, f4, f5, f6, f7, f8, f9, h1, h2, h3, rwAV, Ro.obj, Ro.av, roAV, Wm, Wn, Xr, Y7, hN, hG, Bool.false_eq_true, if_false, if_true, e1]
    repeat refine peel ?_
    apply V; clear V K
    refine rg zs [2] ?_
    refine ar ?_
    rw [hr]
    exact ⟨_, rfl, frz_nd1 _ _ _ _ (by (try simp only [Pj]); (repeat first | rw [if_pos rfl] | rw [if_neg (by omega)]); rfl) (by omega), rfl, fun k hk1 hk2 => by (repeat rw [if_neg (by omega)])⟩
   rw [if_neg (by rintro ⟨a1, a2⟩; rw [a2, decide_eq_true a1] at hb; cases hb)] at hr
   have e1 : IntKind.i64.wrap ((u.o : Int) - 1) = ((u.o - 1 : Nat) : Int) := by rw [w64 (by omega) (by omega)]; omega
   refine ak ?_
   apply hK3
   refine Zf zs [2, 6] fun K V => ?_
   try simp only [go_sem, seval, hR1, hszs, hags, hmos, hss, g1, g2, g3, g4, g5, g6, g7, g8, f1, f2, f3, f4, f5, f6, f7, f8, f9, h1, h2, h3, rwAV, Ro.obj, Ro.av, roAV, Wm, Wn, Xr, Y7, hN, hG, Bool.false_eq_true, if_false, if_true, e1]
   repeat refine peel ?_
   apply V; clear V K
   refine rg zs [2] ?_
   refine ar ?_
   rw [hr]
   exact ⟨_, rfl, frz_nd1 _ _ _ _ (by (try simp only [Pj]); (repeat first | rw [if_pos rfl] | rw [if_neg (by omega)]); rfl) (by omega), rfl, fun k hk1 hk2 => by (repeat rw [if_neg (by omega)])⟩
  exact absurd hb (by simp)
 ·rw [if_pos hN] at hr
  obtain ⟨b1, b2, _⟩ := Xq hN
  refine rk zs [0, 2, 3, 4, 5] fun K V => ?_
  refine ⟨fun hg => absurd hg (by simp), fun _ => ⟨.bool false, ?_⟩⟩
  refine nz ?_
  apply V; clear V K
  refine Za fun K1 hK1 => ?_
  refine rg zs [0, 2, 3, 4, 26] ?_
  refine Zb ?_ ?_ <;> intro hb
  ·have hm1 := m1 b1 (by omega)
   have hso := hI.g b1
   have e0 : IntKind.i64.wrap ((s1.o : Int) + 1) = ((s1.o + 1 : Nat) : Int) := by rw [w64 (by omega) (by omega)]; omega
   refine Zf zs [0, 2, 3, 4] fun K V => ?_
   try simp only [go_sem, seval, hR1, hszs, hags, hmos, hss, g1, g2, g3, g4, g5, g6, g7, g8, f1, f2, f3, f4, f5, f6, f7, f8, f9, h1, h2, h3, rwAV, Ro.obj, Ro.av, roAV, Wm, Wn, Xr, Y7, hN, hG, Bool.false_eq_true, if_false, if_true, e0]
   repeat refine peel ?_
   apply V; clear V K
   refine Za fun K2 hK2 => ?_
   refine rg zs [0, 2, 3, 4, 38] ?_
   refine Zb ?_ ?_ <;> intro hb
   ·have hd : 16 < s1.o + 1 := by have := of_decide_eq_true hb; omega
    rw [if_pos hd] at hr
    refine rg zs [2] ?_
    refine rg zs [2] ?_
    refine ar ?_
    rw [hr]
    exact ⟨_, rfl, VL _ _ _ _, rfl, fun k hk1 hk2 => by (repeat rw [if_neg (by omega)])⟩
   have hd : ¬ 16 < s1.o + 1 := by have := of_decide_eq_false hb; omega
   rw [if_neg hd] at hr
   have hI2 : RI t { s1 with o := s1.o + 1 } := ⟨p1, by simp only; omega, fun _ => by simp only; omega⟩
   have hm2 : Ro.m t { s1 with o := s1.o + 1 } = s1.m t := rfl
   obtain ⟨y, hy⟩ : ∃ y, y = Yf fs t f { s1 with o := s1.o + 1 } := ⟨_, rfl⟩
   obtain ⟨z, hz⟩ : ∃ z, z = YK fs t f { s1 with o := s1.o + 1 } := ⟨_, rfl⟩
   have hyo := ((VM (fs := fs) ht f).2.2.2.2 { s1 with o := s1.o + 1 } p1)
   have hzo := ((VM (fs := fs) ht f).1 { s1 with o := s1.o + 1 } p1)
   have cY := fun H n a b => hy ▸ (hF f (by omega)).1 { s1 with o := s1.o + 1 } H n hI2 (by omega) a b
   have cZ := fun H n a b => hz ▸ (hF f (by omega)).2 { s1 with o := s1.o + 1 } H n hI2 (by omega) a b
   rw [← hy] at hyo
   rw [← hz] at hzo
   simp only [← hy, ← hz] at hr
   clear hy hz
   have hyo1 := hyo.o; have hyo2 := hyo.o2; have hzo1 := hzo.o; have hzo2 := hzo.o2
   simp only at hyo1 hyo2 hzo1 hzo2
   have e1 : IntKind.i64.wrap ((y.2.o : Int) - 1) = ((y.2.o - 1 : Nat) : Int) := by rw [w64 (by omega) (by omega)]; omega
   obtain ⟨u, hu⟩ : ∃ u, u = isS t 103 [41] z.2 := ⟨_, rfl⟩
   have cU := fun H n a b => hu ▸ VR fs t z.2 kr ht hzo.p 103 [41] H n a b
   have huo : u.o = z.2.o := by rw [hu]; unfold isS; split; exact YQ _ _; rfl
   try simp only [← hu] at hr
   clear hu
   refine ak ?_
   apply hK2
   refine rg zs [0, 2, 4, 6] ?_
   refine Za fun K3 hK3 => ?_
   refine rg zs [0, 2, 6, 45] ?_
   refine Zb ?_ ?_ <;> intro hb
   ·refine rk zs [0, 2, 6, 7] fun K V => ?_
    refine ck func151 ((cY _ _ (by omega) (by (try simp only [Pj]); (repeat first | rw [if_pos rfl] | rw [if_neg (by omega)]); rfl))) ?_
    apply V; clear V K
    refine Yq (n + 1) 5 (ver := 0) (e := 5) (els := [.agg [.str wNot, .nilsl, .str [], .str [], .int .i64 0]]) (els' := [.agg [.str wNot, .osl (n + 3) 0 0 0, .str [], .str [], .int .i64 0]]) (by simp [Heap.put, wNot, g5]) ⟨Adp.agg ⟨.refl _ _, Adp.nilsl _, .refl _ _, .refl _ _, .refl _ _, trivial⟩, trivial⟩ ?_
    refine rg1 zs [0, 2, 6] ?_
    apply hK3
    refine Zf zs [2, 6] fun K V => ?_
    try simp only [go_sem, seval, hR1, hszs, hags, hmos, hss, g1, g2, g3, g4, g5, g6, g7, g8, f1, f2, f3, f4, f5, f6, f7, f8, f9, h1, h2, h3, rwAV, Ro.obj, Ro.av, roAV, Wm, Wn, Xr, Y7, hN, hG, Bool.false_eq_true, if_false, if_true, e1]
    repeat refine peel ?_
    apply V; clear V K
    refine rg zs [2] ?_
    refine ar ?_
    rw [hr]
    exact ⟨_, rfl, frz_nd1 _ _ _ _ (by (try simp only [Pj]); (repeat first | rw [if_pos rfl] | rw [if_neg (by omega)]); rfl) (by omega), rfl, fun k hk1 hk2 => by (repeat rw [if_neg (by omega)])⟩
   exact absurd hb (by simp)
  exact absurd hb (by simp)
theorem ref13_all {fs : List Fml} (hfs : fs.length ≤ 1048576) {t : List UInt8} (ht : t.length ≤ 512) {kr : Nat} (f : Nat) : FactC fs t kr f ∧ TermC fs t kr f ∧ CondC fs t kr f := by
 induction f using Nat.strongRecOn with
 | _ f ih => exact ⟨c_ref13_fact hfs ht fun g hg => ⟨(ih g hg).1, (ih g hg).2.2⟩, c_ref13_term ht fun g hg => (ih g hg).1, c_ref13_cond ht fun g hg => (ih g hg).2.1⟩
def s0R : Ro := ⟨⟨0, [], 0, 0⟩, 0, 0, -1⟩
def Qv (fs : List Fml) (t : List UInt8) : CR × Int :=
 if 512 < t.length then (.none, 512)
 else if 0 ≤ (Zm t s0R).bad then (.none, (Zm t s0R).bad)
 else ((YK fs t (8 * t.length + 16) (Zm t s0R)).1, (if (YK fs t (8 * t.length + 16) (Zm t s0R)).2.bad < 0 ∧ (YK fs t (8 * t.length + 16) (Zm t s0R)).2.w.kind ≠ 101 then YV t (YK fs t (8 * t.length + 16) (Zm t s0R)).2 else (YK fs t (8 * t.length + 16) (Zm t s0R)).2).bad)
theorem readR_rel (fs : List Fml) (t : List UInt8) : match WF fs t with
   | .ok x => (Qv fs t).2 = -1 ∧ (Qv fs t).1.tst fs = x.1
   | .error p => (Qv fs t).2 = p := by
 unfold WF Qv
 by_cases h : 512 < t.length
 ·rw [if_pos h, if_pos h]; rfl
 rw [if_neg h, if_neg h]
 have ht : t.length ≤ 512 := om
 have h1 := stepF_rel (t := t) (s := ⟨0, ⟨0, 0, [], 0, []⟩, [], 0⟩) ht (Nat.zero_le _)
 have e : Zm t (toR ⟨0, ⟨0, 0, [], 0, []⟩, [], 0⟩) = Zm t s0R := by
   unfold Zm YI toR s0R; by_cases hw : (Xj t 0).2.2 = true <;> simp [hw]
 rw [e] at h1
 cases hs : VW t ⟨0, ⟨0, 0, [], 0, []⟩, [], 0⟩ with
 | error p =>
   rw [hs] at h1
   have hb : (Zm t s0R).bad = p := h1.1
   rw [Vp, if_pos om]; exact hb
 | ok s =>
   rw [hs] at h1
   obtain ⟨e1, e2, _⟩ := h1
   rw [e1, if_neg (Mg s), ZU]
   have h2 := (condF_rel (fs := fs) ht (8 * t.length + 16)).2.2.2.2 s e2
   cases hc : UI fs t (8 * t.length + 16) s with
   | error p =>
     rw [hc] at h2
     have hb : (YK fs t (8 * t.length + 16) (toR s)).2.bad = p := h2
     rw [Vp, if_neg (by rintro ⟨a, _⟩; omega)]; exact hb
   | ok x =>
     rw [hc] at h2
     obtain ⟨c1, c2, c3, _⟩ := h2
     rw [ZU]
     simp only [c1]
     have hkd : (toR x.2).w.kind = 101 ↔ x.2.nxt.kind = 0 := (VE _).1
     by_cases hk : x.2.nxt.kind = 0
     ·rw [if_neg (by simp [hk]), if_neg (by rintro ⟨_, a⟩; exact a (hkd.2 hk))]
      exact ⟨rfl, c2⟩
     ·rw [if_pos hk, if_pos ⟨by simp [toR], fun a => hk (hkd.1 a)⟩]
      exact Ut c3.w
theorem NHe0.eqs {P Q : Prop} (g : Imp P Q := by (try simp only [go_sem, seval, hszs, hags, hmos, hss, f1, f2, f3, f4, f5, f6, f7, f8, f9, h1, h2, h3, rwAV, Ro.obj, Ro.av, roAV, Wm, Wn, Xr, Y7]); exact Pm) : Imp P Q := g
set_option maxHeartbeats 1600000 in
open NHe0 NY in
theorem c_ref13_read (fs : List Fml) (hfs : fs.length ≤ 1048576) (t : List UInt8) (H : Heap) (n : Nat) : Ret prog 71 [Zi fs, .str t] H n (.tup [(Qv fs t).1.av, .int .i64 (Qv fs t).2]) H n := by
 have hszs : (Zi fs).sz = 1 := rfl
 have hags : (Zi fs).isAgg = true := rfl
 have hmos : (Zi fs).memOK = true := rfl
 have hss : ∀ g, strip g (Zi fs) = Zi fs := fun g => by cases g <;> rfl
 have f1 : (n = n + 1) = False := osi
 have f2 : (n + 1 = n) = False := osi
 have f3 : (n + 2 = n) = False := osi
 have f4 : (n + 2 = n + 1) = False := osi
 have f5 : (n + 1 = n + 2) = False := osi
 have f6 : (n = n + 2) = False := osi
 have f7 : (n = n + 3) = False := osi
 have f8 : (n + 1 = n + 3) = False := osi
 have f9 : (n + 2 = n + 3) = False := osi
 have h1 : (n + 3 = n) = False := osi
 have h2 : (n + 3 = n + 1) = False := osi
 have h3 : (n + 3 = n + 2) = False := osi
 obtain ⟨r, hr⟩ : ∃ r, r = Qv fs t := ⟨_, rfl⟩
 rw [← hr]
 unfold Qv at hr
 refine Ret.fin ?_
 refine fw func71 ntmps71 results71 ?_
 refine rg zs [1, 2, 4] ?_
 refine Za fun K1 hK1 => ?_
 refine rg zs [1, 2, 4, 10] ?_
 refine Zb ?_ ?_ <;> intro hb
 ·have hd : 512 < t.length := ott
  rw [if_pos hd] at hr
  refine rg zs [4, 5] ?_
  refine kbj ?_
  exact VL _ _ _ _
 have hd : ¬ 512 < t.length := otf
 rw [if_neg hd] at hr
 have ht : t.length ≤ 512 := om
 have p1 := UZ (s := s0R) ht (Nat.zero_le _)
 have ho := YQ t s0R
 obtain ⟨s, hs⟩ : ∃ s, s = Zm t s0R := ⟨_, rfl⟩
 have cN := fun kr H n a b => hs ▸ Wp fs t s0R kr ht (Nat.zero_le _) H n a b
 rw [← hs] at hr p1 ho
 clear hs
 have ho2 : s.o = 0 := ho
 have hms : s.m t ≤ t.length + 1 := by unfold Ro.m; split; (split <;> omega); omega
 have hI : RI t s := ⟨p1, om, fun _ => om⟩
 refine kay ?_
 refine rg zs [4, 6] ?_
 refine rk zs [4, 6] fun K V => ?_
 refine ck func106 ((cN (n + 2) _ _ om (Pk _ _ _))) ?_
 refine kas ?_
 refine Za fun K2 hK2 => ?_
 refine rg zs [4, 6, 22] ?_
 refine Zb ?_ ?_ <;> intro hb
 ·rw [if_pos (of_decide_eq_true hb)] at hr
  refine dx zs [4, 5] [.q, .m, .q, .q, .q, .w [2, 3, 4], .q] [0, 1, 2, 3, 4, 5, 6] [0, 1, 2, 3, 4, 5, 6] fun K V => ?_
  refine kas ?_
  refine kbj ?_
  exact VL _ _ _ _
 rw [if_neg (of_decide_eq_false hb)] at hr
 obtain ⟨x, hx⟩ : ∃ x, x = YK fs t (8 * t.length + 16) s := ⟨_, rfl⟩
 have cC := fun H n9 a b => hx ▸ (ref13_all hfs ht (kr := n + 2) (8 * t.length + 16)).2.2 s H n9 hI om a b
 have hxo := (VM (fs := fs) ht (8 * t.length + 16)).1 s p1
 rw [← hx] at hr hxo
 clear hx
 refine kaQ ?_
 refine rk zs [4, 6, 7] fun K V => ?_
 refine ck func107 ((cC _ _ om ohr)) ?_
 refine kas ?_
 refine Za fun K3 hK3 => ?_
 refine rg zs [4, 6, 7, 42] ?_
 refine Zb ?_ ?_ <;> intro hb
 ·have hz := Wt hb
  rw [if_pos ⟨of_decide_eq_true hz.1, by have h9 := hz.2; simp at h9; omega⟩] at hr
  refine rk1 zs [4, 6, 7] fun K V => ?_
  refine ck func108 ((XM fs t x.2 (n + 2) _ _ om ohr)) ?_
  refine kas ?_
  refine ns ?_
  apply hK3
  refine dx zs [4, 5] [.q, .m, .q, .q, .q, .w [2, 3, 4], .q] [0, 1, 2, 3, 4, 5, 6] [0, 1, 2, 3, 4, 5, 6] fun K V => ?_
  refine kas ?_
  refine kbj ?_
  exact .kl (Mk _ _)
 rw [if_neg (by rintro ⟨a1, a2⟩; rw [decide_eq_true a1] at hb; have h9 := hb; simp at h9; omega)] at hr
 refine kba ?_
 refine dx zs [4, 5] [.q, .m, .q, .q, .q, .w [2, 3, 4], .q] [0, 1, 2, 3, 4, 5, 6] [0, 1, 2, 3, 4, 5, 6] fun K V => ?_
 refine kas ?_
 refine kbj ?_
 exact .kl (Mk _ _)
theorem X5 : ∀ a b : List UInt8, (Lib.compareBytes a b = 0 ↔ a = b) ∧ (Op.bytesLess a b = decide (Lib.compareBytes a b < 0))
 | [], [] => by simp [Lib.compareBytes, Op.bytesLess]
 | [], _ :: _ => by simp [Lib.compareBytes, Op.bytesLess]
 | _ :: _, [] => by simp [Lib.compareBytes, Op.bytesLess]
 | a :: x, b :: y => by
   obtain ⟨h1, h2⟩ := X5 x y
   unfold Lib.compareBytes Op.bytesLess
   by_cases ha : a < b
   ·have hne : a ≠ b := fun e => by subst e; exact absurd ha (UInt8.lt_irrefl _)
    simp [ha, hne]
   ·by_cases hb : b < a
    ·have hne : a ≠ b := fun e => by subst e; exact absurd hb (UInt8.lt_irrefl _)
     simp [ha, hb, hne]
    ·have e : a = b := UInt8.le_antisymm (UInt8.not_lt.1 hb) (UInt8.not_lt.1 ha)
     subst e
     simp only [if_neg ha, decide_eq_false ha, beq_self_eq_true, Bool.true_and, Bool.false_or, List.cons.injEq, true_and]
     exact ⟨h1, h2⟩
theorem NHf0.eqs {P Q : Prop} (g : Imp P Q := by (try simp only [go_sem, seval, hsz, Zg, Zu, bys, List.length_map, Zq]); exact Pm) : Imp P Q := g
theorem NHf0.sd {P : Prop} (g : P := by first | exact Yl _ | exact fun _ => Yl _ | (intros; simp_all; done) | fail) : P := g
open NHf0 NZ in
theorem NP (q : QryE) (row : List UInt8) (H : Heap) (n : Nat) : Ret prog 89 [Zg q, bys row] H n (.bool (Y1 q row)) H n := by
 have hsz : (Zg q).sz = 10 := Z6 q
 refine Ret.fin ?_
 refine fw func89 ntmps89 results89 ?_
 refine rg zs [1, 2] ?_
 refine rg zs [2, 5] ?_
 refine kag ?_
 refine ⟨_, rfl, fun k hk => onn, XJ ?_⟩
 unfold Y1
 have e1 : ((q.to.length : Int) == 0) = decide (q.to.length = 0) := by rw [Bool.eq_iff_iff, beq_iff_eq, decide_eq_true_eq]; omega
 rw [e1]
 have e2 : (!decide (Lib.compareBytes row q.frm < 0)) = decide (0 ≤ Lib.compareBytes row q.frm) := by rw [← decide_not]; exact decide_eq_decide.2 om
 rw [(X5 row q.frm).2, (X5 row q.to).2, e2]
 exact kcP
theorem NHf1.eqs {P Q : Prop} (g : Imp P Q := by (try simp only [go_sem, seval, hsz, hszs, Zi, Zg, Zu, bys, List.length_map, f1, f2, Zq, hx0, hle]); exact Pm) : Imp P Q := g
theorem NHf1.sd {P : Prop} (g : P := by first | (intros; simp_all; done) | exact fun _ => Yl _ | fail) : P := g
set_option maxHeartbeats 1600000 in
open NHf1 NZ in
theorem NS (fs : List Fml) (hfs : fs.length ≤ 1048576) (q : QryE) (hq : q.fams.length ≤ 1048576) (H : Heap) (n : Nat) : Ret prog 70 [Zi fs, Zg q] H n (.int .i64 (if Yk fs.length q then 0 else 130)) H n := by
 have hszs : (Zi fs).sz = 1 := rfl
 have hsz : (Zg q).sz = 10 := Z6 q
 have f1 : (n = n + 1) = False := osi
 have f2 : (n + 1 = n) = False := osi
 have hx0 : IntKind.i64.wrap ((fs.length : Int) - 1) = (fs.length : Int) - 1 := w64 om om
 have hle : (Op.bytesLess q.to q.frm || q.to == q.frm) = decide (Lib.compareBytes q.to q.frm ≤ 0) := by
   obtain ⟨h1, h2⟩ := X5 q.to q.frm
   rw [h2]
   by_cases h : q.to = q.frm
   ·rw [decide_eq_true (by have := h1.2 h; omega : Lib.compareBytes q.to q.frm ≤ 0)]; simp [h]
   ·have : Lib.compareBytes q.to q.frm ≠ 0 := fun e => h (h1.1 e)
    rw [show (q.to == q.frm) = false from beq_eq_false_iff_ne.2 h, Bool.or_false]
    exact decide_eq_decide.2 om
 refine Ret.fin ?_
 refine fw func70 ntmps70 results70 ?_
 refine rg zs [2, 3] ?_
 refine Za fun K1 hK1 => ?_
 refine rg zs [2, 3, 30] ?_
 refine Zb ?_ ?_ <;> intro hb
 ·have h1 : Qe q = true := by unfold Qe; simp only [Int.natCast_pos] at hb; grind
  have hf : Yk fs.length q = false := by unfold Yk; rw [h1]; rfl
  refine kag ?_
  exact kbF
 have h1 : Qe q = false := by unfold Qe; simp only [Int.natCast_pos] at hb; grind
 refine kay ?_
 refine Za fun K2 hK2 => ?_
 refine rg zs [2, 3, 5] ?_
 refine kbM ?_
 refine Zp (fun T' H' n' => ∃ i : Nat, i ≤ q.fams.length ∧ (∀ j, j < i → fbad fs.length q.fams j = false) ∧ T' = tl [(2, .loc n 0 0 0 []), (3, .loc (n + 1) 0 0 0 []), (5, .int .i64 i)] ∧ H' = (H.put n (some (.arr 0 1 [Zi fs]))).put (n + 1) (some (.arr 0 10 [Zg q])) ∧ n' = n + 2) (fun T' _ _ => q.fams.length - iv (T' 5)) ?_ ?_
 ·exact ⟨0, Nat.zero_le _, fun j hj => absurd hj (Nat.not_lt_zero _), rfl, by simp [Zi, Zg, Zu, bys], rfl⟩
 rintro T1 H1 n1 ⟨i, hi, hno, rfl, rfl, rfl⟩
 refine Za fun K3 hK3 => ?_
 refine rg zs [2, 3, 5, 35] ?_
 refine Zb ?_ ?_ <;> intro hb
 ·have hlt : i < q.fams.length := ott
  have hnth : nth (q.fams.map fun n => AV.int .i64 n) i = AV.int .i64 (q.fams.getD i 0) := Zx (fun n => AV.int .i64 n) q.fams _ hlt
  have hnth2 : nth (q.fams.map fun n => AV.int .i64 n) ((i : Int) - 1).toNat = AV.int .i64 (q.fams.getD (i - 1) 0) := by rw [show ((i : Int) - 1).toNat = i - 1 by omega]; exact Zx (fun n => AV.int .i64 n) q.fams _ om
  have hx : IntKind.i64.wrap ((i : Int) + 1) = ((i + 1 : Nat) : Int) := w1 om
  have hx2 : IntKind.i64.wrap ((i : Int) - 1) = (i : Int) - 1 := w64 om om
  have hfb : (bif bout (q.fams.getD i 0) 0 ((fs.length : Int) - 1) then true else bif decide ((0 : Int) < (i : Int)) then decide (q.fams.getD i 0 ≤ q.fams.getD (i - 1) 0) else false) = fbad fs.length q.fams i := by
    unfold bout fbad
    rw [show decide ((fs.length : Int) - 1 < q.fams.getD i 0) = decide ((fs.length : Int) ≤ q.fams.getD i 0) from decide_eq_decide.2 om, show decide ((0 : Int) < (i : Int)) = decide (0 < i) from decide_eq_decide.2 om]
    cases decide (q.fams.getD i 0 < 0) <;> cases decide ((fs.length : Int) ≤ q.fams.getD i 0) <;> cases decide (0 < i) <;> rfl
  refine kba ?_
  refine bk fun K4 hK4 => ?_
  refine YS rfl zs [2, 3, 5, 65] [.q, .q, .m, .q, .q, .q, .q, .q, .q, .c, .m, .m, .q, .m, .q, .q, .m, .q, .q, .q, .q, .m, .q, .q, .q, .q, .q, .q] [0, 1, 2, 3, 4, 5, 6, 7, 8, 9, 10, 11, 12, 13, 14, 15, 16, 17, 18, 19, 20, 21, 22, 23, 24, 25, 26, 27] [0, 1, 2, 3, 4, 5, 6, 7, 8, 9, 10, 11, 12, 13, 14, 15, 16, 17, 18, 19, 20, 21, 22, 23, 24, 25, 26, 27] (by kernel_rfl) (fun _ _ _ _ _ h => h) fun K V => ?_
  try simp only [go_sem, seval, hsz, hszs, Zi, Zg, Zu, bys, List.length_map, f1, f2, Zq, hx0, hle, hnth, hnth2, hx2, Int.toNat_natCast]
  repeat (first | (refine And.intro ?_ ?_; · first | exact ⟨om, om⟩) | refine peel ?_)
  refine ZY func68 rfl rfl rfl (fun _ n => (by apply LG <;> first | assumption | omega)) ?_
  try simp only [go_sem, seval, hsz, hszs, Zi, Zg, Zu, bys, List.length_map, f1, f2, Zq, hx0, hle, hnth, hnth2, hx2, Int.toNat_natCast]
  repeat (first | (refine And.intro ?_ ?_; · first | (intro hx9; have h9 : 0 < i := (by simp at hx9; omega); exact ⟨om, om⟩) | (intros; simp_all; done)) | refine peel ?_)
  refine kas ?_
  refine Zb ?_ ?_ <;> intro hb
  ·have hf1 : fbad fs.length q.fams i = true := hfb.symm.trans hb
   have hf : Yk fs.length q = false := by
     exact kbE
   refine kag ?_
   exact kbF
  have hf1 : fbad fs.length q.fams i = false := hfb.symm.trans hb
  refine kb3 ?_
  refine ZG zs [2, 3, 5] fun K V => ?_
  try simp only [go_sem, seval, hsz, hszs, Zi, Zg, Zu, bys, List.length_map, f1, f2, Zq, hx0, hle, hx]
  refine kad ?_
  exact kbH
 have hge : i = q.fams.length := otf
 have hfu : Uj fs.length q.fams = true := by unfold Uj; rw [List.all_eq_true]; intro j hj; rw [hno j (by have := List.mem_range.1 hj; omega)]; rfl
 have h3 : (bif (bif (bif decide ((256 : Int) < (q.pre.length : Int)) then true else bout q.time 0 1099511627776) then true else bout q.n 1 16) then true else bout q.rows 1 1000) = !Vk q := by
   unfold bout Vk
   rw [show decide ((256 : Int) < (q.pre.length : Int)) = !decide (q.pre.length ≤ 256) by rw [← decide_not]; exact decide_eq_decide.2 om, show decide (q.time < 0) = !decide (0 ≤ q.time) by rw [← decide_not]; exact decide_eq_decide.2 om, show decide ((1099511627776 : Int) < q.time) = !decide (q.time ≤ 1099511627776) by rw [← decide_not]; exact decide_eq_decide.2 om, show decide (q.n < 1) = !decide (1 ≤ q.n) by rw [← decide_not]; exact decide_eq_decide.2 om, show decide ((16 : Int) < q.n) = !decide (q.n ≤ 16) by rw [← decide_not]; exact decide_eq_decide.2 om, show decide (q.rows < 1) = !decide (1 ≤ q.rows) by rw [← decide_not]; exact decide_eq_decide.2 om, show decide ((1000 : Int) < q.rows) = !decide (q.rows ≤ 1000) by rw [← decide_not]; exact decide_eq_decide.2 om]
   cases decide (q.pre.length ≤ 256) <;> cases decide (0 ≤ q.time) <;> cases decide (q.time ≤ 1099511627776) <;> cases decide (1 ≤ q.n) <;> cases decide (q.n ≤ 16) <;> cases decide (1 ≤ q.rows) <;> cases decide (q.rows ≤ 1000) <;> rfl
 refine ax ?_
 apply hK2
 refine Za fun K5 hK5 => ?_
 refine rk zs [84] fun K V => ?_
 refine kcS ?_
 refine kcS ?_
 refine kcS ?_
 refine kas ?_
 refine Zb ?_ ?_ <;> intro hb
 ·have hf : Yk fs.length q = false := by have := h3.symm.trans hb; unfold Yk; rw [h1, hfu]; cases e : Vk q <;> simp_all
  refine kag ?_
  exact kbF
 have hf : Yk fs.length q = true := by have := h3.symm.trans hb; unfold Yk; rw [h1, hfu]; cases e : Vk q <;> simp_all
 refine ak ?_
 apply hK5
 refine kag ?_
 exact kbF
theorem Pb (x : Int) : 0 ≤ intBits .and .u8 x 15 ∧ intBits .and .u8 x 15 < 16 := by
 have h : intBits .and .u8 x 15 = (((BitVec.ofInt 8 x) &&& 15#8).toNat : Int) := by
   show IntKind.u8.wrap (((BitVec.ofInt 8 x) &&& (BitVec.ofInt 8 15)).toNat : Int) = _
   rw [IntKind.wrap_u8, show BitVec.ofInt 8 15 = 15#8 by decide]
   have := ((BitVec.ofInt 8 x) &&& 15#8).isLt
   omega
 have h2 : ((BitVec.ofInt 8 x) &&& 15#8).toNat ≤ 15 := by rw [BitVec.toNat_and]; exact Nat.and_le_right
 omega
def tabQ (i : Int) : Int := Ql.getD i.toNat 0
theorem nth_tab (x : Int) : nth UO (intBits .and .u8 x 15).toNat = .int .u32 (tabQ (intBits .and .u8 x 15)) := by
 have h := Pb x
 unfold tabQ UO
 exact Zx (fun n => AV.int .u32 n) Ql _ (by rw [show Ql.length = 16 from rfl]; omega)
def sumS (c : Int) (b : UInt8) : Int :=
 let c1 := intBits .xor .u32 (c.fdiv (2 ^ min 4 32)) (tabQ (intBits .and .u8 (intBits .xor .u8 (IntKind.u8.wrap c) b.toNat) 15))
 intBits .xor .u32 (c1.fdiv (2 ^ min 4 32)) (tabQ (intBits .and .u8 (intBits .xor .u8 (IntKind.u8.wrap c1) ((b.toNat : Int).fdiv (2 ^ min 4 8))) 15))
def sumP (c : Int) (b : List UInt8) : Int := b.foldl sumS c
def sumF (parts : List (List UInt8)) : Int := intBits .xor .u32 4294967295 (parts.foldl sumP 4294967295)
def lowB (v : Int) : List UInt8 := [Z4 v, Z4 (v / 256), Z4 (v / 65536), Z4 (v / 16777216)]
theorem NQi0.eqs {P Q : Prop} (g : Imp P Q := by (try simp only [go_sem, seval, List.length_map, hT]); exact Pm) : Imp P Q := g
open NQi0 NY in
theorem VP (parts : List (List UInt8)) (hp : parts.length ≤ 1048576) (hbs : ∀ b ∈ parts, b.length ≤ 1099511627776) {H : Heap} {n : Nat} (hG : GOK 1 1 H n) : Ret prog 86 [.sl 1 (parts.map bys)] H n (.int .u32 (sumF parts)) H n := by
 have hT := hG.table
 refine fw func86 ntmps86 results86 ?_
 refine kcu ?_
 refine rg zs [0, 3] ?_
 refine Za fun K1 hK1 => ?_
 refine rg zs [3, 8, 9, 10] ?_
 refine kbM ?_
 refine Zp (fun T' H' n' => ∃ i : Nat, i ≤ parts.length ∧ T' = tl [(3, .int .u32 ((parts.take i).foldl sumP 4294967295)), (8, .sl 1 (parts.map bys)), (9, .int .i64 parts.length), (10, .int .i64 i)] ∧ H = H' ∧ n = n') (fun T' _ _ => parts.length - iv (T' 10)) ?_ ?_
 ·exact ⟨0, Nat.zero_le _, rfl, rfl, rfl⟩
 rintro T1 H1 n1 ⟨i, hi, rfl, rfl, rfl⟩
 refine rg zs [3, 8, 9, 10, 11] ?_
 refine Za fun K2 hK2 => ?_
 refine Zb ?_ ?_ <;> intro hb
 ·have hlt : i < parts.length := ott
  have hnth : nth (parts.map bys) i = bys (parts.getD i []) := Zx bys parts _ hlt
  have hx : IntKind.i64.wrap ((i : Int) + 1) = ((i + 1 : Nat) : Int) := w1 om
  have hm : parts.getD i [] ∈ parts := by rw [show parts.getD i [] = parts[i] by simp [List.getD, hlt]]; exact List.getElem_mem hlt
  obtain ⟨b, hbd⟩ : ∃ b, b = parts.getD i [] := ⟨_, rfl⟩
  rw [← hbd] at hnth hm
  have hbl := hbs b hm
  refine kaQ ?_
  refine bk fun K3 hK3 => ?_
  refine Zf zs [3, 5, 8, 9, 10] fun K V => ?_
  try simp only [go_sem, seval, List.length_map, hT, hnth, Int.toNat_natCast]
  repeat (first | (refine And.intro ?_ ?_; · first | exact ⟨om, om⟩) | refine peel ?_)
  refine kas ?_
  refine rg zs [3, 8, 9, 10, 14, 15, 16] ?_
  refine kbM ?_
  refine Zp (fun T' H' n' => ∃ j : Nat, j ≤ b.length ∧ T' = tl [(3, .int .u32 (sumP ((parts.take i).foldl sumP 4294967295) (b.take j))), (8, .sl 1 (parts.map bys)), (9, .int .i64 parts.length), (10, .int .i64 i), (14, bys b), (15, .int .i64 b.length), (16, .int .i64 j)] ∧ H = H' ∧ n = n') (fun T' _ _ => b.length - iv (T' 16)) ?_ ?_
  ·exact ⟨0, Nat.zero_le _, rfl, rfl, rfl⟩
  rintro T1 H1 n1 ⟨j, hj, rfl, rfl, rfl⟩
  refine rg zs [3, 8, 9, 10, 14, 15, 16, 17] ?_
  refine Za fun K4 hK4 => ?_
  refine Zb ?_ ?_ <;> intro hb
  ·have hltj : j < b.length := ott
   have hntj : nth (b.map Zd) j = Zd (b.getD j 0) := Zx Zd b _ hltj
   have hxj : IntKind.i64.wrap ((j : Int) + 1) = ((j + 1 : Nat) : Int) := w1 om
   have hst : sumP ((parts.take i).foldl sumP 4294967295) (b.take (j + 1)) = sumS (sumP ((parts.take i).foldl sumP 4294967295) (b.take j)) (b.getD j 0) := by unfold sumP; rw [List.take_succ_eq_append_getElem hltj, List.foldl_append]; simp [List.getD, hltj]
   generalize hcc : sumP ((parts.take i).foldl sumP 4294967295) (b.take j) = c at hst
   refine kb3 ?_
   refine bk fun K5 hK5 => ?_
   refine Zf zs [3, 7, 8, 9, 10, 14, 15, 16] fun K V => ?_
   try simp only [go_sem, seval, List.length_map, hT, hntj, Int.toNat_natCast]
   repeat (first | (refine And.intro ?_ ?_; · first | exact ⟨om, om⟩) | refine peel ?_)
   refine kas ?_
   refine Zf zs [3, 7, 8, 9, 10, 14, 15, 16] fun K V => ?_
   try simp only [go_sem, seval, List.length_map, hT, nth_tab]
   repeat (first | (refine And.intro ?_ ?_; · first | exact ⟨(Pb _).1, (Pb _).2, rfl⟩) | refine peel ?_)
   refine kas ?_
   refine ZG zs [3, 8, 9, 10, 14, 15, 16] fun K V => ?_
   try simp only [go_sem, seval, List.length_map, hT, nth_tab]
   repeat (first | (refine And.intro ?_ ?_; · first | exact ⟨(Pb _).1, (Pb _).2, rfl⟩) | refine peel ?_)
   refine kas ?_
   refine ns ?_
   apply hK5
   refine rg1 zs [3, 8, 9, 10, 14, 15, 16] ?_
   refine ⟨⟨j + 1, om, ?_⟩, by rw [hxj]; omega⟩
   rw [hxj]
   rw [hst]; rfl
  refine ax ?_
  apply hK3
  refine rg1 zs [3, 8, 9, 10] ?_
  have hgj : b.length ≤ j := otf
  refine ⟨⟨i + 1, om, ?_⟩, by rw [hx]; omega⟩
  rw [hx, List.take_of_length_le hgj, List.take_succ_eq_append_getElem hlt, List.foldl_append, hbd]
  simp [List.getD, hlt]
 have hge : i = parts.length := otf
 refine ax ?_
 apply hK1
 refine kal ?_
 rw [hge, List.take_length]; rfl
theorem fdiv8 (v : Int) : v.fdiv (2 ^ min 8 32) = v / 256 := by rw [show (2 : Int) ^ min 8 32 = 256 by decide, Int.fdiv_eq_ediv_of_nonneg _ odc]
theorem fdiv16 (v : Int) : v.fdiv (2 ^ min 16 32) = v / 65536 := by rw [show (2 : Int) ^ min 16 32 = 65536 by decide, Int.fdiv_eq_ediv_of_nonneg _ odc]
theorem fdiv24 (v : Int) : v.fdiv (2 ^ min 24 32) = v / 16777216 := by rw [show (2 : Int) ^ min 24 32 = 16777216 by decide, Int.fdiv_eq_ediv_of_nonneg _ odc]
theorem NQi1.eqs {P Q : Prop} (g : Imp P Q := by (try simp only [go_sem, seval, fdiv8, fdiv16, fdiv24, Xv]); exact Pm) : Imp P Q := g
theorem NQi1.sd {P : Prop} (g : P := by first | exact ⟨rfl, by (simp [Zd, AV.sz, AV.memOK]; first | done | fail)⟩ | fail) : P := g
open NQi1 NZ in
theorem c_wire_low0 (v : Int) (H : Heap) (n : Nat) : Ret prog 123 [.nilsl, .int .u32 v] H n (bys (lowB v)) H n := by
 refine Ret.fin ?_
 refine fw func123 ntmps123 results123 ?_
 refine kb1 ?_
 refine Z8 0 1 rfl ?_
 simp only [go_sem, seval]
 refine kag ?_
 exact ⟨_, rfl, fun k hk => by rw [if_neg om], .osl (Pk _ _ _) (Nat.le_refl _) osi (XR _ (Z0 (lowB v) _))⟩
theorem NQi2.eqs {P Q : Prop} (g : Imp P Q := by (try simp only [go_sem, seval, hk, e1, List.length_map, fdiv8, fdiv16, fdiv24, Xv]); exact Pm) : Imp P Q := g
theorem NQi2.sd {P : Prop} (g : P := by first | exact ⟨rfl, by (simp [Zd, AV.sz, AV.memOK]; first | done | fail)⟩ | exact ⟨om, .inr trivial, om, om⟩ | fail) : P := g
open NQi2 NZ in
theorem M7 (v : Int) (b : List UInt8) (hb : b.length ≤ 1099511627776) (k ver : Nat) {H : Heap} {n : Nat} (hk : H k = some (.arr ver 1 (b.map Zd))) : Ret prog 123 [.osl k ver 0 b.length, .int .u32 v] H n (.osl k (ver + 1) 0 (b ++ lowB v).length) (H.put k (some (.arr (ver + 1) 1 ((b ++ lowB v).map Zd)))) n := by
 have e1 : List.take b.length (List.map Zd b) = List.map Zd b := List.take_of_length_le osi
 refine fw func123 ntmps123 results123 ?_
 refine kb1 ?_
 refine kag ?_
 refine ⟨by simp [lowB], by rw [List.map_append]; rfl⟩
theorem NQi3.eqs {P Q : Prop} (g : Imp P Q := by (try simp only [go_sem, seval, e1, e2, List.length_map, Option.getD_some, Int.toNat_natCast]); exact Pm) : Imp P Q := g
theorem NQi3.sd {P : Prop} (g : P := by first | exact ⟨om, om, om, fun m h => h.elim⟩ | fail) : P := g
open NQi3 NZ in
theorem c_wire_is (b : List UInt8) (p : Nat) (v : Int) (hp : p + 4 ≤ b.length) (hb : b.length ≤ 1099511627776) (H : Heap) (n : Nat) : Ret prog 131 [bys b, .int .i64 p, .int .u32 v] H n (.bool ((b.drop p).take 4 == lowB v)) H n := by
 have e1 : IntKind.i64.wrap ((p : Int) + 4) = ((p + 4 : Nat) : Int) := by rw [w64 om om]; omega
 have e2 : List.drop p (List.take (p + 4) (b.map Zd)) = ((b.drop p).take 4).map Zd := by rw [List.take_add, List.drop_append_of_le_length oz, List.drop_take_self, List.nil_append, ← List.map_drop, ← List.map_take]
 refine fw func131 ntmps131 results131 ?_
 refine rg zs [0, 1, 2] ?_
 refine dx zs [6] [.m, .m, .m, .q, .q, .m, .c, .c, .q] [0, 1, 2, 3, 4, 5, 6, 7, 8] [0, 1, 2, 3, 4, 5, 6, 7, 8] fun K V => ?_
 refine cq func123 (fun _ n => (c_wire_low0 v _ _)) ?_
 refine cq func96 (fun _ n => (Us ((b.drop p).take 4) (lowB v) _ _)) ?_
 refine kas ?_
 refine ar ?_
 trivial
def HQ : Heap := fun k => if k = 1 then some (.glob 1 UO) else if k = 1 then some (.glob 5 Np) else none
theorem JL {n : Nat} (h1 : 1 < n) (h2 : 1 < n) : GOK 1 1 HQ n := ⟨fun h => (if_neg h).trans (if_pos rfl), if_pos rfl, h1, h2⟩
theorem VK {H : Heap} {n : Nat} (hG : GOK 1 1 H n) : KC H HQ := fun k o h => by
 unfold HQ at h
 by_cases e : k = 1
 ·rw [if_pos e] at h; cases h; subst e
  exact ⟨hG.table, 1, UO, rfl, XQ (fun n : Int => .int .u32 n) (fun _ => trivial) _⟩
 ·rw [if_neg e] at h
  by_cases e2 : k = 1
  ·rw [if_pos e2] at h; cases h; subst e2
   exact ⟨hG.kindsC e, 5, Np, rfl, XQ (fun i : Nat => kindAV i) (fun _ => ⟨trivial, trivial, trivial, trivial, trivial, trivial⟩) _⟩
  ·rw [if_neg e2] at h; cases h
theorem c_Sum_osl (b : List UInt8) (hb : b.length ≤ 1099511627776) {k ver : Nat} {H : Heap} {n : Nat} (hG : GOK 1 1 H n) (hk : H k = some (.arr ver 1 (b.map Zd))) : Ret prog 86 [.sl 1 [.osl k ver 0 b.length]] H n (.int .u32 (sumF [b])) H n :=
 PS (H0 := HQ) (args' := [.sl 1 ([b].map bys)]) (VK hG) (.cons (.sl (.cons (.osl hk (Nat.zero_le _) osi (by rw [List.drop_zero, List.take_of_length_le osi]; exact XR _ (Z0 _ _))) .nil)) .nil) trivial
   (VP [b] osi (fun x hx => by rw [List.mem_singleton.1 hx]; exact hb) (JL hG.gek hG.get))
def Yt (n : Nat) : List UInt8 := [Z4 ((n : Int) / 16777216), Z4 ((n : Int) / 65536), Z4 ((n : Int) / 256), Z4 (n : Int)]
def Z9 (b : List UInt8) : List UInt8 := Yt b.length ++ lowB (sumF [Yt b.length]) ++ b ++ lowB (sumF [b])
theorem fdiv8' (v : Int) : v.fdiv (2 ^ min 8 64) = v / 256 := by rw [show (2 : Int) ^ min 8 64 = 256 by decide, Int.fdiv_eq_ediv_of_nonneg _ odc]
theorem fdiv16' (v : Int) : v.fdiv (2 ^ min 16 64) = v / 65536 := by rw [show (2 : Int) ^ min 16 64 = 65536 by decide, Int.fdiv_eq_ediv_of_nonneg _ odc]
theorem fdiv24' (v : Int) : v.fdiv (2 ^ min 24 64) = v / 16777216 := by rw [show (2 : Int) ^ min 24 64 = 16777216 by decide, Int.fdiv_eq_ediv_of_nonneg _ odc]
theorem NQj0.eqs {P Q : Prop} (g : Imp P Q := by (try simp only [go_sem, seval, List.length_map, fdiv8', fdiv16', fdiv24', Xv, e0]); exact Pm) : Imp P Q := g
theorem NQj0.sd {P : Prop} (g : P := by first | exact ⟨rfl, by (simp [Zd, AV.sz, AV.memOK]; first | done | fail)⟩ | exact ⟨om, om⟩ | fail) : P := g
open NQj0 NZ in
theorem o_wire_Frame (b : List UInt8) (hb : b.length ≤ 1048576) {H : Heap} {n : Nat} (hG : GOK 1 1 H n) : Zn prog 85 [bys b] H n (OAns H n (.tup [bys (Z9 b), .int .i64 0])) := by
 have hG0 := hG
 have hl8 : (Yt b.length ++ lowB (sumF [Yt b.length])).length = 8 := rfl
 have e8 : List.take (Yt b.length ++ lowB (sumF [Yt b.length])).length (List.map Zd (Yt b.length ++ lowB (sumF [Yt b.length]))) = List.map Zd (Yt b.length ++ lowB (sumF [Yt b.length])) := List.take_of_length_le osi
 have e0 : IntKind.i64.wrap ((b.length : Int) + 12) = ((b.length + 12 : Nat) : Int) := by rw [w64 om om]; omega
 refine fw func85 ntmps85 results85 ?_
 refine kcu ?_
 refine rg zs [0, 4] ?_
 refine Za fun K1 hK1 => ?_
 refine rg zs [0, 4, 9] ?_
 refine Zb ?_ ?_ <;> intro hb
 ·exact absurd (of_decide_eq_true hb) om
 refine kay ?_
 refine rg zs [0, 5] ?_
 refine ZO (fun H' n' => H' n = some (.arr 1 1 ((Yt b.length).map Zd)) ∧ GOK 1 1 H' n' ∧ (∀ k, k < n → H' k = H k) ∧ n' = n + 1) ⟨Pk _ _ _, hG.on (fun k hk => Pi _ _ om) om, fun k hk => Pi _ _ om, rfl⟩ fun H1 n1 ⟨r1, hG, hl1, hn1⟩ => ?_
 subst hn1
 refine Zf zs [0, 5] fun K V => ?_
 refine kcA ?_
 repeat (first | (refine And.intro ?_ ?_; · first | exact ⟨rfl, by simp [Zd, AV.sz, AV.memOK]⟩) | refine peel ?_)
 refine Zo func86 rfl rfl rfl ((c_Sum_osl (Yt b.length) (by simp [Yt]) hG r1)) ?_
 refine kcA ?_
 repeat refine peel ?_
 refine Zo func123 rfl rfl rfl ((M7 (sumF [Yt b.length]) (Yt b.length) (by simp [Yt]) n 1 r1)) ?_
 refine kcA ?_
 repeat (first | (refine And.intro ?_ ?_; · first | exact ⟨om, .inr trivial, by rw [hl8]; omega, by rw [hl8]; omega⟩) | refine peel ?_)
 refine kas ?_
 refine ZO (fun H' n' => H' n = some (.arr 3 1 ((Yt b.length ++ lowB (sumF [Yt b.length]) ++ b).map Zd)) ∧ GOK 1 1 H' n' ∧ (∀ k, k < n → H' k = H k) ∧ n' = n + 1) ⟨by simp only [Pk, List.map_append], hG0.on (fun k hk => (Pi _ _ om).trans (hl1 k hk)) om, fun k hk => (Pi _ _ om).trans (hl1 k hk), rfl⟩ fun H2 n2 ⟨r2, hG, hl2, hn2⟩ => ?_
 subst hn2
 refine kbS ?_
 refine rk zs [2, 3] fun K V => ?_
 refine ck func86 ((VP [b] osi (fun x hx => by rw [List.mem_singleton.1 hx]; omega) hG)) ?_
 refine ck func123 ((M7 (sumF [b]) (Yt b.length ++ lowB (sumF [Yt b.length]) ++ b) (by rw [List.length_append, hl8]; omega) n 3 r2)) ?_
 refine kas ?_
 refine ar ?_
 exact OAns.one (PL (.osl (Pk _ _ _) osi (by rw [List.take_of_length_le osi]; exact PK _ (UE (Z9 b))))) om (fun k hk => (Pi _ _ om).trans (hl2 k hk)) om
theorem or_nat {x y : Nat} (hx : x < 9223372036854775808) (hy : y < 9223372036854775808) : intBits .or .i64 (x : Int) (y : Int) = ((x ||| y : Nat) : Int) ∧ x ||| y < 9223372036854775808 := by
 have h3 : x ||| y < 9223372036854775808 := Nat.or_lt_two_pow (n := 63) hx hy
 refine ⟨?_, h3⟩
 show IntKind.i64.wrap (((BitVec.ofInt 64 (x : Int)) ||| (BitVec.ofInt 64 (y : Int))).toNat : Int) = _
 rw [BitVec.ofInt_natCast, BitVec.ofInt_natCast, BitVec.toNat_or, BitVec.toNat_ofNat, BitVec.toNat_ofNat, Nat.mod_eq_of_lt om, Nat.mod_eq_of_lt om, w64 om om]
def hd4 (b : List UInt8) : Nat := (((b.getD 0 0).toNat * 16777216 ||| (b.getD 1 0).toNat * 65536) ||| (b.getD 2 0).toNat * 256) ||| (b.getD 3 0).toNat
theorem hd4_int (b : List UInt8) : intBits .or .i64 (intBits .or .i64 (intBits .or .i64 (IntKind.i64.wrap (IntKind.i64.wrap ((b.getD 0 0).toNat : Int) * 2 ^ min 24 64)) (IntKind.i64.wrap (IntKind.i64.wrap ((b.getD 1 0).toNat : Int) * 2 ^ min 16 64))) (IntKind.i64.wrap (IntKind.i64.wrap ((b.getD 2 0).toNat : Int) * 2 ^ min 8 64))) (IntKind.i64.wrap ((b.getD 3 0).toNat : Int)) = ((hd4 b : Nat) : Int) ∧ hd4 b < 9223372036854775808 := by
 have a0 := (b.getD 0 0).toNat_lt
 have a1 := (b.getD 1 0).toNat_lt
 have a2 := (b.getD 2 0).toNat_lt
 have a3 := (b.getD 3 0).toNat_lt
 unfold hd4
 generalize (b.getD 0 0).toNat = x0 at *
 generalize (b.getD 1 0).toNat = x1 at *
 generalize (b.getD 2 0).toNat = x2 at *
 generalize (b.getD 3 0).toNat = x3 at *
 have e0 : IntKind.i64.wrap (IntKind.i64.wrap (x0 : Int) * 2 ^ min 24 64) = ((x0 * 16777216 : Nat) : Int) := by rw [w64 (n := (x0 : Int)) om om, show (2 : Int) ^ min 24 64 = 16777216 by decide, w64 om om]; omega
 have e1 : IntKind.i64.wrap (IntKind.i64.wrap (x1 : Int) * 2 ^ min 16 64) = ((x1 * 65536 : Nat) : Int) := by rw [w64 (n := (x1 : Int)) om om, show (2 : Int) ^ min 16 64 = 65536 by decide, w64 om om]; omega
 have e2 : IntKind.i64.wrap (IntKind.i64.wrap (x2 : Int) * 2 ^ min 8 64) = ((x2 * 256 : Nat) : Int) := by rw [w64 (n := (x2 : Int)) om om, show (2 : Int) ^ min 8 64 = 256 by decide, w64 om om]; omega
 have e3 : IntKind.i64.wrap (x3 : Int) = (x3 : Int) := w64 om om
 rw [e0, e1, e2, e3]
 obtain ⟨h1, h2⟩ := or_nat (x := x0 * 16777216) (y := x1 * 65536) om om
 obtain ⟨h3, h4⟩ := or_nat (x := x0 * 16777216 ||| x1 * 65536) (y := x2 * 256) h2 om
 obtain ⟨h5, h6⟩ := or_nat (x := x0 * 16777216 ||| x1 * 65536 ||| x2 * 256) (y := x3) h4 om
 rw [h1, h3, h5]
 exact ⟨rfl, h6⟩
def rfN (b : List UInt8) (N : Nat) : List UInt8 × Int × Int :=
 if b.length < 8 then ([], 0, 10)
 else if ((b.drop 4).take 4 == lowB (sumF [b.take 4])) = false then ([], 0, 12)
 else if 1048576 < N then ([], 0, 13)
 else if b.length - 8 < N + 4 then ([], 0, 10)
 else if ((b.drop (8 + N)).take 4 == lowB (sumF [(b.drop 8).take (N)])) = false then ([], 0, 12)
 else ((b.drop 8).take (N), ((8 + N + 4 : Nat) : Int), 0)
def rfQ (b : List UInt8) : List UInt8 × Int × Int := rfN b (hd4 b)
theorem NQj1.eqs {P Q : Prop} (g : Imp P Q := by (try simp only [go_sem, seval, List.length_map]); exact Pm) : Imp P Q := g
set_option maxHeartbeats 1600000 in
open NQj1 NY in
theorem Lh (b : List UInt8) (hb9 : b.length ≤ 1099511627776) {H : Heap} {n : Nat} (hG : GOK 1 1 H n) : Ret prog 92 [bys b, .int .i64 0] H n (.tup [bys (rfQ b).1, .int .i64 (rfQ b).2.1, .int .i64 (rfQ b).2.2]) H n := by
 obtain ⟨N, hNd⟩ : ∃ N, N = hd4 b := ⟨_, rfl⟩
 obtain ⟨hNi, hN⟩ := hd4_int b
 rw [← hNd] at hNi hN
 have hrf : rfQ b = rfN b N := by rw [hNd]; unfold rfQ; rfl
 rw [hrf]
 clear hrf hNd
 have k1 : IntKind.i64.wrap 1 = 1 := odc
 have k2 : IntKind.i64.wrap 2 = 2 := odc
 have k3 : IntKind.i64.wrap 3 = 3 := odc
 have k4 : IntKind.i64.wrap 4 = 4 := odc
 have k8 : IntKind.i64.wrap 8 = 8 := odc
 have m1 : (1 : Int).toNat = 1 := rfl
 have m2 : (2 : Int).toNat = 2 := rfl
 have m3 : (3 : Int).toNat = 3 := rfl
 have m4 : (4 : Int).toNat = 4 := rfl
 refine Ret.fin ?_
 refine fw func92 ntmps92 results92 ?_
 refine kb1 ?_
 refine bk fun K1 hK1 => ?_
 refine rc zs [0, 1, 9] func130 ((VO b 0 _ _)) ?_
 refine Zb ?_ ?_ <;> intro hb
 ·exact absurd (of_decide_eq_true hb) om
 refine rg zs [0, 1, 13] ?_
 refine Zb ?_ ?_ <;> intro hb
 ·have h8 : b.length < 8 := by have := of_decide_eq_true hb; rw [w64 om om] at this; omega
  have hw : rfN b N = ([], 0, 10) := by unfold rfN; rw [if_pos h8]
  exact kaf
 have h8 : 8 ≤ b.length := by have := of_decide_eq_false hb; rw [w64 om om] at this; omega
 have e2 : List.take 4 (b.map Zd) = (b.take 4).map Zd := by rw [List.map_take]
 have n0 : nth (b.map Zd) 0 = Zd (b.getD 0 0) := Zx Zd b _ om
 have n1 : nth (b.map Zd) 1 = Zd (b.getD 1 0) := Zx Zd b _ om
 have n2 : nth (b.map Zd) 2 = Zd (b.getD 2 0) := Zx Zd b _ om
 have n3 : nth (b.map Zd) 3 = Zd (b.getD 3 0) := Zx Zd b _ om
 refine Zf zs [0, 1, 19] fun K V => ?_
 refine kbP ?_
 repeat (first | (refine And.intro ?_ ?_; · first | exact ⟨om, fun m h => h.elim⟩ | exact ⟨rfl, by simp [AV.sz, AV.memOK]⟩) | refine peel ?_)
 refine Zo func86 rfl rfl rfl ((VP [b.take 4] osi (fun x hx => by rw [List.mem_singleton.1 hx, List.length_take]; omega) hG)) ?_
 refine kbP ?_
 repeat refine peel ?_
 refine Zo func131 rfl rfl rfl ((c_wire_is b 4 (sumF [b.take 4]) om hb9 _ _)) ?_
 refine kbP ?_
 refine kad ?_
 refine Zb ?_ ?_ <;> intro hb
 ·have hw : rfN b N = ([], 0, 12) := by unfold rfN; rw [if_neg om, if_pos osb]
  exact kaf
 have hs1 : ((b.drop 4).take 4 == lowB (sumF [b.take 4])) = true := osb
 refine kay ?_
 refine YS rfl zs [0, 1, 7] [.m, .m, .q, .q, .q, .q, .m, .m, .q, .q, .q, .q, .q, .q, .m, .m, .q, .q, .q, .q, .q, .q, .m, .m, .q, .q, .q, .q, .q, .q] [0, 1, 2, 3, 4, 5, 6, 7, 8, 9, 10, 11, 12, 13, 14, 15, 16, 17, 18, 19, 20, 21, 22, 23, 24, 25, 26, 27, 28, 29] [0, 1, 2, 3, 4, 5, 6, 7, 8, 9, 10, 11, 12, 13, 14, 15, 16, 17, 18, 19, 20, 21, 22, 23, 24, 25, 26, 27, 28, 29] (by kernel_rfl) (fun _ _ _ _ _ h => h) fun K V => ?_
 try simp only [go_sem, seval, List.length_map, hNi, n0, n1, n2, n3, k1, k2, k3, k4, m1, m2, m3, m4, k8]
 refine kad ?_
 refine Zf zs [0, 1, 7] fun K V => ?_
 try simp only [go_sem, seval, List.length_map, k8]
 refine kad ?_
 refine bk fun K2 hK2 => ?_
 refine rg zs [0, 1, 7, 63] ?_
 refine Zb ?_ ?_ <;> intro hb
 ·have hw : rfN b N = ([], 0, 13) := by unfold rfN; rw [if_neg om, if_neg (by rw [hs1]; simp), if_pos ott]
  exact kaf
 have hN2 : ¬ 1048576 < N := otf
 have j1 : IntKind.i64.wrap ((b.length : Int) - 8) = ((b.length - 8 : Nat) : Int) := by rw [w64 om om]; omega
 have j2 : IntKind.i64.wrap ((N : Int) + 4) = ((N + 4 : Nat) : Int) := by rw [w64 om om]; omega
 have j3 : IntKind.i64.wrap (8 + (N : Int)) = ((8 + N : Nat) : Int) := by rw [w64 om om]; omega
 have j4 : IntKind.i64.wrap (((8 + N : Nat) : Int) + 4) = ((8 + N + 4 : Nat) : Int) := by rw [w64 om om]; omega
 refine Zf zs [0, 1, 7, 66] fun K V => ?_
 try simp only [go_sem, seval, List.length_map, j1, j2]
 refine kad ?_
 refine Zb ?_ ?_ <;> intro hb
 ·have hw : rfN b N = ([], 0, 10) := by unfold rfN; rw [if_neg om, if_neg (by rw [hs1]; simp), if_neg hN2, if_pos ott]
  exact kaf
 have hL : ¬ b.length - 8 < N + 4 := otf
 have m8 : (8 : Int).toNat = 8 := rfl
 have e5 : List.drop 8 (List.take (8 + N) (b.map Zd)) = ((b.drop 8).take (N)).map Zd := by rw [List.take_add, List.drop_append_of_le_length oz, List.drop_take_self, List.nil_append, ← List.map_drop, ← List.map_take]
 refine kaQ ?_
 refine Zf zs [0, 1, 7, 8] fun K V => ?_
 try simp only [go_sem, seval, List.length_map, j3, m8, e5, Option.getD_some, Int.toNat_natCast]
 repeat (first | (refine And.intro ?_ ?_; · first | exact ⟨om, om, fun m h => h.elim⟩) | refine peel ?_)
 refine kas ?_
 refine Za fun K3 hK3 => ?_
 refine Zf zs [1, 7, 8, 88] fun K V => ?_
 try simp only [go_sem, seval, List.length_map, j3]
 repeat (first | (refine And.intro ?_ ?_; · first | exact ⟨rfl, by simp [AV.sz, AV.memOK]⟩) | refine peel ?_)
 refine Zo func86 rfl rfl rfl ((VP [(b.drop 8).take (N)] osi (fun x hx => by rw [List.mem_singleton.1 hx, List.length_take]; omega) hG)) ?_
 try simp only [go_sem, seval, List.length_map, j3]
 repeat refine peel ?_
 refine Zo func131 rfl rfl rfl ((c_wire_is b (8 + N) (sumF [(b.drop 8).take (N)]) om hb9 _ _)) ?_
 try simp only [go_sem, seval, List.length_map, j3]
 refine kad ?_
 refine Zb ?_ ?_ <;> intro hb
 ·have hw : rfN b N = ([], 0, 12) := by unfold rfN; rw [if_neg om, if_neg (by rw [hs1]; simp), if_neg hN2, if_neg hL, if_pos osb]
  exact kaf
 have hw : rfN b N = ((b.drop 8).take (N), ((8 + N + 4 : Nat) : Int), 0) := by unfold rfN; rw [if_neg om, if_neg (by rw [hs1]; simp), if_neg hN2, if_neg hL, if_neg (by rw [show ((b.drop (8 + N)).take 4 == lowB (sumF [(b.drop 8).take (N)])) = true by simpa using hb]; simp)]
 refine kba ?_
 refine Zf zs [4, 5, 6] fun K V => ?_
 try simp only [go_sem, seval, List.length_map, j3, j4]
 repeat refine peel ?_
 refine Zo func53 rfl rfl rfl ((c_bytes_Clone ((b.drop 8).take (N)) (by rw [List.length_take]; omega) _ _)) ?_
 try simp only [go_sem, seval, List.length_map, j3, j4]
 refine kad ?_
 refine ar ?_
 rw [hw]
 exact ⟨_, rfl, .kl ⟨Z0 _ _, trivial, trivial, trivial⟩⟩
def YE (q : QryE) : List UInt8 := [if q.rev then 1 else 0] ++ Zk q.frm ++ Zk q.to ++ Zh (u64 q.fams.length) ++ (q.fams.flatMap fun f => Zh (u64 f)) ++ Zk q.pre ++ Zh (u64 q.time) ++ Zh (u64 q.n) ++ Zk q.whr
structure Wu (q : QryE) (H : Heap) (n ver M : Nat) (bs : List UInt8) (H' : Heap) (n' : Nat) : Prop where
 q : H' n = some (.arr 0 10 [Zg q])
 b : H' (n + 1) = some (.arr ver 1 (bs.map Zd))
 low : ∀ k, k < n → H' k = H k
 lt : n + 2 ≤ n'
 le : bs.length ≤ M
theorem Wu.app {q : QryE} {H : Heap} {n ver M : Nat} {bs : List UInt8} {H1 : Heap} {m : Nat} (h : Wu q H n ver M bs H1 m) (ys : List UInt8) {X : Option AObj} {zs : List AV} (hz : zs = ys.map Zd) {m' K : Nat} (hm : m ≤ m') (V : M + ys.length ≤ K) :
   Wu q H n (ver + 1) K (bs ++ ys) ((H1.put m X).put (n + 1) (some (.arr (ver + 1) 1 (bs.map Zd ++ zs)))) m' where
 q := by rw [Pi _ _ om, Pi _ _ (by have := h.lt; omega)]; exact h.q
 b := by rw [Pk, List.map_append, hz]
 low := fun k hk => by rw [Pi _ _ om, Pi _ _ (by have := h.lt; omega)]; exact h.low k hk
 lt := by have := h.lt; omega
 le := by have := h.le; rw [List.length_append]; omega
theorem Yn (b : List UInt8) : List.take b.length (List.map Zd b) = List.map Zd b := List.take_of_length_le osi
theorem NQk0.eqs {P Q : Prop} (g : Imp P Q := by (try simp only [go_sem, seval, hsz, Zg, Zu, bys, List.length_map, f1, f2, hQ, hB, g1, g2, hnth, hx, Yn, ZZ, Int.toNat_natCast]); exact Pm) : Imp P Q := g
theorem NQk0.sd {P : Prop} (g : P := by first | exact ⟨Nat.le_refl _, Nat.le_refl _, .inr trivial, om, om⟩ | exact ⟨om, om⟩ | fail) : P := g
set_option maxHeartbeats 3200000 in
open NQk0 NZ in
theorem c_query_form (q : QryE) (h1 : q.frm.length ≤ 1048576) (h2 : q.to.length ≤ 1048576) (h3 : q.fams.length ≤ 1048576) (h4 : q.pre.length ≤ 1048576) (h5 : q.whr.length ≤ 1048576) (H : Heap) (n : Nat) : Ret prog 87 [Zg q] H n (bys (YE q)) H n := by
 have hsz : (Zg q).sz = 10 := Z6 q
 have hQ := hsz
 have hB := hsz
 have g1 := hsz
 have g2 := hsz
 have hnth := hsz
 have hx := hsz
 have f1 : (n = n + 1) = False := osi
 have f2 : (n + 1 = n) = False := osi
 refine Ret.fin ?_
 refine fw func87 ntmps87 results87 ?_
 refine rg zs [1] ?_
 refine rg zo [1, 3] ?_
 refine ZQ [1, 3] (fun T' H' n' => T' = tl [(1, .loc n 0 0 0 []), (3, .osl (n + 1) 0 0 1)] ∧ Wu q H n 0 1 [if q.rev then 1 else 0] H' n') ?_ ?_
 ·refine rg zs [1, 3, 8] ?_
  refine Zb ?_ ?_ <;> intro hb
  ·refine rg1 zs [1, 3] ?_
   exact kaC
  refine ak ?_
  exact kaC
 rintro T1 H1 m ⟨rfl, hS⟩
 obtain ⟨b0, hb0⟩ : ∃ b, b = [if q.rev then (1 : UInt8) else 0] := ⟨_, rfl⟩
 rw [← hb0] at hS
 have hb1 : b0.length = 1 := by rw [hb0]; rfl
 rw [show AV.osl (n + 1) 0 0 1 = AV.osl (n + 1) 0 0 b0.length by rw [hb1]]
 have hQ := hS.q
 have hB := hS.b
 have hl := hS.lt
 have hle := hS.le
 have g1 : (n + 1 = m) = False := oz
 have g2 : (n = m) = False := oz
 have hy := Zl (v := q.frm.length) om
 have hz : (Zk q.frm).length = (Zh q.frm.length).length + q.frm.length := by simp [Zk]
 refine rk zs [1, 3] fun K V => ?_
 refine ck func84 ((Wj q.frm om _ _)) ?_
 refine kas ?_
 refine ZO (fun H' n' => Wu q H n (0 + 1) 1048600 (b0 ++ Zk q.frm) H' n') (hS.app (Zk q.frm) rfl om om) fun H1 m hS => ?_
 refine kbS ?_
 obtain ⟨c1, hc1⟩ : ∃ b, b = b0 ++ Zk q.frm := ⟨_, rfl⟩
 rw [← hc1] at hS ⊢
 have hQ := hS.q
 have hB := hS.b
 have hl := hS.lt
 have hle := hS.le
 have g1 : (n + 1 = m) = False := oz
 have g2 : (n = m) = False := oz
 have hy := Zl (v := q.to.length) om
 have hz : (Zk q.to).length = (Zh q.to.length).length + q.to.length := by simp [Zk]
 refine rk zs [1, 3] fun K V => ?_
 refine ck func84 ((Wj q.to om _ _)) ?_
 refine kas ?_
 refine ZO (fun H' n' => Wu q H n (0 + 1 + 1) 2097200 (c1 ++ Zk q.to) H' n') (hS.app (Zk q.to) rfl om om) fun H1 m hS => ?_
 refine kbS ?_
 obtain ⟨c2, hc2⟩ : ∃ b, b = c1 ++ Zk q.to := ⟨_, rfl⟩
 rw [← hc2] at hS ⊢
 have hQ := hS.q
 have hB := hS.b
 have hl := hS.lt
 have hle := hS.le
 have g1 : (n + 1 = m) = False := oz
 have g2 : (n = m) = False := oz
 have hy := Zl (Z5 q.fams.length)
 refine rc zs [1, 3] func83 ((Xo (u64 q.fams.length) (Z5 _) _ _)) ?_
 refine Za fun K1 hK1 => ?_
 refine ZO (fun H' n' => Wu q H n (0 + 1 + 1 + 1) 3000000 (c2 ++ Zh (u64 q.fams.length)) H' n') (hS.app (Zh (u64 q.fams.length)) rfl om om) fun H1 m hS => ?_
 refine kbS ?_
 obtain ⟨c3, hc3⟩ : ∃ b, b = c2 ++ Zh (u64 q.fams.length) := ⟨_, rfl⟩
 rw [← hc3] at hS ⊢
 have hQ := hS.q
 have hB := hS.b
 have hl := hS.lt
 have hle := hS.le
 have g1 : (n + 1 = m) = False := oz
 have g2 : (n = m) = False := oz
 refine rg zs [1, 3, 29, 30, 31] ?_
 refine kbM ?_
 refine Zp (fun T' H' n' => ∃ i : Nat, i ≤ q.fams.length ∧ T' = tl [(1, .loc n 0 0 0 []), (3, .osl (n + 1) (3 + i) 0 (c3 ++ (q.fams.take i).flatMap (fun f => Zh (u64 f))).length), (29, Zu q.fams), (30, .int .i64 q.fams.length), (31, .int .i64 i)] ∧ Wu q H n (3 + i) (3000000 + 10 * i) (c3 ++ (q.fams.take i).flatMap (fun f => Zh (u64 f))) H' n') (fun T' _ _ => q.fams.length - iv (T' 31)) ?_ ?_
 ·exact ⟨0, Nat.zero_le _, by simp [Zu], by simpa using hS⟩
 rintro T1 H1 n1 ⟨i, hi, rfl, hS⟩
 obtain ⟨m, hm⟩ : ∃ m, m = n1 := ⟨_, rfl⟩
 subst hm
 refine rg zs [1, 3, 29, 30, 31, 32] ?_
 refine Za fun K2 hK2 => ?_
 refine Zb ?_ ?_ <;> intro hb
 ·have hlt : i < q.fams.length := ott
  have hx : IntKind.i64.wrap ((i : Int) + 1) = ((i + 1 : Nat) : Int) := w1 om
  have hnth : nth (q.fams.map fun n => AV.int .i64 n) i = AV.int .i64 (q.fams.getD i 0) := Zx (fun n => AV.int .i64 n) q.fams _ hlt
  have hy := Zl (Z5 (q.fams.getD i 0))
  have hts : (q.fams.take (i + 1)).flatMap (fun f => Zh (u64 f)) = (q.fams.take i).flatMap (fun f => Zh (u64 f)) ++ Zh (u64 (q.fams.getD i 0)) := by rw [List.take_succ_eq_append_getElem hlt, List.flatMap_append]; simp [List.getD, hlt]
  obtain ⟨d, hd⟩ : ∃ d, d = c3 ++ (q.fams.take i).flatMap (fun f => Zh (u64 f)) := ⟨_, rfl⟩
  rw [← hd] at hS ⊢
  have hQ := hS.q
  have hB := hS.b
  have hl := hS.lt
  have hle := hS.le
  have g1 : (n + 1 = m) = False := oz
  have g2 : (n = m) = False := oz
  refine kaQ ?_
  refine bk fun K3 hK3 => ?_
  refine rg zs [1, 3, 5, 29, 30, 31] ?_
  refine rc1 zs [1, 3, 29, 30, 31] func83 ((Xo (u64 (q.fams.getD i 0)) (Z5 _) _ _)) ?_
  apply hK3
  refine rg1 zs [1, 3, 29, 30, 31] ?_
  exact kbf
 have hge : i = q.fams.length := otf
 have htk : q.fams.take i = q.fams := List.take_of_length_le om
 subst hge
 obtain ⟨c4, hc4⟩ : ∃ d, d = c3 ++ (q.fams.take q.fams.length).flatMap (fun f => Zh (u64 f)) := ⟨_, rfl⟩
 rw [← hc4] at hS ⊢
 have hQ := hS.q
 have hB := hS.b
 have hl := hS.lt
 have hle := hS.le
 have g1 : (n + 1 = m) = False := oz
 have g2 : (n = m) = False := oz
 have hy := Zl (v := q.pre.length) om
 have hz : (Zk q.pre).length = (Zh q.pre.length).length + q.pre.length := by simp [Zk]
 refine ax ?_
 apply hK1
 refine rk zs [1, 3] fun K V => ?_
 refine ck func84 ((Wj q.pre om _ _)) ?_
 refine kas ?_
 refine ZO (fun H' n' => Wu q H n (3 + q.fams.length + 1) 16000000 (c4 ++ Zk q.pre) H' n') (hS.app (Zk q.pre) rfl om om) fun H1 m hS => ?_
 refine kbS ?_
 obtain ⟨c5, hc5⟩ : ∃ b, b = c4 ++ Zk q.pre := ⟨_, rfl⟩
 rw [← hc5] at hS ⊢
 have hQ := hS.q
 have hB := hS.b
 have hl := hS.lt
 have hle := hS.le
 have g1 : (n + 1 = m) = False := oz
 have g2 : (n = m) = False := oz
 have hy := Zl (Z5 q.time)
 refine rc zs [1, 3] func83 ((Xo (u64 q.time) (Z5 _) _ _)) ?_
 refine ZO (fun H' n' => Wu q H n (3 + q.fams.length + 1 + 1) 16000010 (c5 ++ Zh (u64 q.time)) H' n') (hS.app (Zh (u64 q.time)) rfl om om) fun H1 m hS => ?_
 refine kbS ?_
 obtain ⟨c6, hc6⟩ : ∃ b, b = c5 ++ Zh (u64 q.time) := ⟨_, rfl⟩
 rw [← hc6] at hS ⊢
 have hQ := hS.q
 have hB := hS.b
 have hl := hS.lt
 have hle := hS.le
 have g1 : (n + 1 = m) = False := oz
 have g2 : (n = m) = False := oz
 have hy := Zl (Z5 q.n)
 refine rc zs [1, 3] func83 ((Xo (u64 q.n) (Z5 _) _ _)) ?_
 refine ZO (fun H' n' => Wu q H n (3 + q.fams.length + 1 + 1 + 1) 16000020 (c6 ++ Zh (u64 q.n)) H' n') (hS.app (Zh (u64 q.n)) rfl om om) fun H1 m hS => ?_
 refine kbS ?_
 obtain ⟨c7, hc7⟩ : ∃ b, b = c6 ++ Zh (u64 q.n) := ⟨_, rfl⟩
 rw [← hc7] at hS ⊢
 have hQ := hS.q
 have hB := hS.b
 have hl := hS.lt
 have hle := hS.le
 have g1 : (n + 1 = m) = False := oz
 have g2 : (n = m) = False := oz
 have hy := Zl (v := q.whr.length) om
 have hz : (Zk q.whr).length = (Zh q.whr.length).length + q.whr.length := by simp [Zk]
 refine rk zs [2] fun K V => ?_
 refine ck func84 ((Wj q.whr om _ _)) ?_
 refine kas ?_
 exact kaG
def tokB (q : QryE) (time : Int) (row : List UInt8) : List UInt8 := Z9 (Zh (u64 time) ++ Zk row ++ Zh (u64 (sumF [YE q])))
theorem fz_bys {k ver : Nat} (b : List UInt8) : FzV k ver 1 (b.map Zd) (.osl k ver 0 b.length) (bys b) := by
 have h := FzV.osl (k := k) (ver := ver) (e := 1) (els := b.map Zd) (off := 0) (len := b.length) osi
 rwa [List.drop_zero, List.take_of_length_le osi] at h
theorem formB_len {q : QryE} (h : q.fine) : (YE q).length ≤ 20000000 := by
 have h1 := Zl (v := q.frm.length) (by have := h.frm; omega)
 have h2 := Zl (v := q.to.length) (by have := h.to; omega)
 have h3 := Zl (Z5 q.fams.length)
 have h4 := Zl (v := q.pre.length) (by have := h.pre; omega)
 have h5 := Zl (Z5 q.time)
 have h6 := Zl (Z5 q.n)
 have h7 := Zl (v := q.whr.length) (by have := h.whr; omega)
 have h8 : ∀ l : List Int, (l.flatMap fun f => Zh (u64 f)).length ≤ 10 * l.length := fun l => by
   induction l with
   | nil => simp
   | cons a l ih => have := Zl (Z5 a); rw [List.flatMap_cons, List.length_append, List.length_cons]; omega
 have h9 := h8 q.fams
 have := h.frm; have := h.to; have := h.fams; have := h.pre; have := h.whr
 unfold YE Zk
 simp only [List.length_append, List.length_cons, List.length_nil]
 omega
theorem NQk1.eqs {P Q : Prop} (g : Imp P Q := by (try simp only [go_sem, seval, hsz, hag, hmo, hs, f1, f2, f3, f4, f5, f6, g1, r1, r2, Yn, ZZ, List.length_map]); exact Pm) : Imp P Q := g
theorem NQk1.sd {P : Prop} (g : P := by first | exact ⟨Nat.le_refl _, Nat.le_refl _, .inr trivial, om, om⟩ | fail) : P := g
open NQk1 NZ in
theorem Vi (q : QryE) (hq : q.fine) (time : Int) (row : List UInt8) (hr : row.length ≤ 256) {H : Heap} {n : Nat} (hG : GOK 1 1 H n) : Zn prog 56 [.agg [.int .i64 time, bys row], Zg q] H n (OAns H n (bys (tokB q time row))) := by
 have hsz : (Zg q).sz = 10 := Z6 q
 have hag : (Zg q).isAgg = true := rfl
 have hmo : (Zg q).memOK = true := rfl
 have hG0 := hG
 have r1 := hsz
 have r2 := hsz
 have g1 := hsz
 have hy := Zl (v := row.length) om
 have hz : (Zk row).length = (Zh row.length).length + row.length := by simp [Zk]
 have hy2 := Zl (Z5 time)
 have hy3 := Zl (Z5 (sumF [YE q]))
 have f1 : (n = n + 1) = False := osi
 have f2 : (n + 1 = n) = False := osi
 have f3 : (n + 1 = n + 2) = False := osi
 have f4 : (n = n + 2) = False := osi
 have f5 : (n + 2 = n + 2 + 1) = False := osi
 have f6 : (n + 2 + 1 = n + 2) = False := osi
 have hs := hsz
 refine fw func56 ntmps56 results56 ?_
 refine rg zs [2, 3] ?_
 refine dx zs [3, 5] [.q, .q, .q, .w [4, 5], .q, .q, .w [], .w [], .q] [0, 1, 2, 4, 5, 3, 6, 7, 8] [0, 1, 2, 5, 3, 4, 6, 7, 8] fun K V => ?_
 refine ck func83 ((Xo (u64 time) (Z5 _) _ _)) ?_
 refine ck func84 ((Wj row om _ _)) ?_
 refine kas ?_
 refine ZO (fun H' n' => H' (n + 1) = some (.arr 0 10 [Zg q]) ∧ H' (n + 2) = some (.arr ((Zh (u64 time)).length + 1) 1 ((Zh (u64 time) ++ Zk row).map Zd)) ∧ GOK 1 1 H' n' ∧ (∀ k, k < n → H' k = H k) ∧ n + 4 ≤ n') ⟨by (try simp only [Pj]); simp, by rw [Pk, List.map_append], hG0.on (fun k hk => oh) om, fun k hk => oh, om⟩ fun H1 m ⟨r1, r2, hG, hl1, hm⟩ => ?_
 refine kbS ?_
 have g1 : (n + 2 = m) = False := oz
 have hbl : (Zh (u64 time) ++ Zk row).length ≤ 300 := by rw [List.length_append]; omega
 have e9 : List.take (Zh (u64 time) ++ Zk row).length (List.map Zd (Zh (u64 time) ++ Zk row)) = List.map Zd (Zh (u64 time) ++ Zk row) := Yn _
 have hs := e9
 refine Zf zs [6] fun K V => ?_
 refine kaD ?_
 repeat refine peel ?_
 refine Zo func87 rfl rfl rfl ((c_query_form q hq.frm hq.to hq.fams hq.pre hq.whr _ _)) ?_
 refine kaD ?_
 repeat (first | (refine And.intro ?_ ?_; · first | exact ⟨rfl, by simp [AV.sz, AV.memOK]⟩) | refine peel ?_)
 refine Zo func86 rfl rfl rfl ((VP [YE q] osi (fun x hx => by rw [List.mem_singleton.1 hx]; have := formB_len hq; omega) hG)) ?_
 refine kaD ?_
 repeat refine peel ?_
 refine Zo func83 rfl rfl rfl ((Xo (u64 (sumF [YE q])) (Z5 _) _ _)) ?_
 refine kaD ?_
 repeat (first | (refine And.intro ?_ ?_; · first | exact ⟨Nat.le_refl _, Nat.le_refl _, .inr trivial, om, om⟩) | refine peel ?_)
 rw [← List.length_append, ← List.map_append]
 refine Zt (args' := [.osl (n + 2) ((Zh (u64 time)).length + 2) 0 (Zh (u64 time) ++ Zk row ++ Zh (u64 (sumF [YE q]))).length]) func85 rfl rfl rfl (OAns.lend (H0 := HQ) (VK (hG0.on (fun k hk => ohx (hl1 k hk)) (Nat.le_refl _))) (.cons (.osl (Pk _ _ _) (Nat.zero_le _) osi (by rw [List.drop_zero, List.take_of_length_le osi]; exact XR _ (Z0 (Zh (u64 time) ++ Zk row ++ Zh (u64 (sumF [YE q]))) 0))) .nil) (o_wire_Frame (Zh (u64 time) ++ Zk row ++ Zh (u64 (sumF [YE q]))) (by rw [List.length_append]; omega) (JL (by have := hG0.gek; omega) (by have := hG0.get; omega)))) ?_ ?_
 rotate_left
 ·intro p H' n' hc; exact hc.pan.elim
 intro rr H2 n2 hc
 obtain ⟨ks, hM⟩ := hc.got
 obtain ⟨a, rfl, ho⟩ := hM.own.tupI_shape
 have hs := fun g => ho.strip g
 refine kaD ?_
 refine kad ?_
 refine kag ?_
 refine ⟨_, ks, rfl, ho, hM.nd, fun k hk => by have := hM.lo k hk; omega, fun k hk => (hM.low k om).trans ?_, by have := hM.nn; omega⟩
 refine ohx ?_; exact hl1 k hk
end Go.Proofs.YtkmkbndcekklmaaGreatDoor
namespace Go.Rt
open Go Go.Sx
theorem schemaE_le {s : List Fml} (h : Zv s = 0) : s.length ≤ 8 := by
 unfold Zv at h
 split at h
 ·cases h
 ·rename_i hb
  simp [bout] at hb
  omega
theorem checkC_parts {qc : Int} {s : List Fml} {c : CmdE} (h : checkC qc s c = 0) :
   Zv s = 0 ∧ bout c.kind 1 7 = false ∧ cb3 c = false ∧ cb4 c = false ∧ cb5 c = false ∧ cb6 s.length c = false ∧ cb7 c = false ∧ cb8 s.length c = false ∧ cb9 c = false ∧ (WN c.kind = true → qc = 0) ∧ (WN c.kind = false → c.q = zq) ∧ (cmdB c).length ≤ 98304 := by
 have t : tailC c = 0 → (cmdB c).length ≤ 98304 := fun hx => by
   unfold tailC at hx
   split at hx
   ·cases hx
   ·rename_i h; simp at h; omega
 unfold checkC at h
 split at h
 ·exact absurd h odc
 rename_i h0
 split at h
 ·exact absurd h odc
 rename_i h1
 split at h
 ·exact absurd h odc
 rename_i h2
 split at h
 ·exact absurd h odc
 rename_i h3
 split at h
 ·exact absurd h odc
 rename_i h4
 split at h
 ·exact absurd h odc
 rename_i h5
 split at h
 ·exact absurd h odc
 rename_i h6
 split at h
 ·exact absurd h odc
 rename_i h7
 split at h
 ·exact absurd h odc
 rename_i h8
 refine ⟨by simpa using h0, by simpa using h1, by simpa using h2, by simpa using h3, by simpa using h4, by simpa using h5, by simpa using h6, by simpa using h7, by simpa using h8, ?_⟩
 split at h
 ·rename_i hk
  split at h
  ·rename_i hq; simp [h] at hq
  ·rename_i hq
   exact ⟨fun _ => by simpa using hq, fun e => (by rw [hk] at e; cases e), t h⟩
 ·rename_i hk
  split at h
  ·exact absurd h odc
  ·rename_i hq
   exact ⟨fun e => absurd e hk, fun _ => by simpa using hq, t h⟩
theorem condOK_rds {nf : Nat} (hn : nf ≤ 8) {x : Ph} (h : condOK nf x = true) : Rds MU (VN x) x := by
 unfold condOK at h
 simp [bout] at h
 exact rds_cond om om om om
theorem opOK_rds {nf : Nat} (hn : nf ≤ 8) {x : OpE} (hd : -9223372036854775808 ≤ x.delta ∧ x.delta < 9223372036854775808) (h : opOK nf x = true) : Rds rdOp (opB x) x := by
 unfold opOK at h
 simp [bout] at h
 exact rds_op om om om om om hd
theorem condB_pos (x : Ph) : 1 ≤ (VN x).length := by simp [VN]
theorem opB_pos (x : OpE) : 1 ≤ (opB x).length := by simp [opB]
theorem rdCmd_B {c : CmdE} {b v : List UInt8} (hb : b = cmdB c ++ v) (hk : 1 ≤ c.kind ∧ c.kind ≤ 7)
   (h2 : 3 ≤ c.kind → (0 ≤ c.client ∧ c.client < 9223372036854775808) ∧ 0 ≤ c.serial ∧ c.serial < 9223372036854775808) (h2' : ¬ 3 ≤ c.kind → c.client = 0 ∧ c.serial = 0)
   (h3 : c.kind = 4 → c.row.length < 9223372036854775808 ∧ (∀ x ∈ c.conds, Rds MU (VN x) x) ∧ (∀ x ∈ c.ops, Rds rdOp (opB x) x) ∧ c.conds.length < 9223372036854775808 ∧ c.ops.length < 9223372036854775808) (h3' : c.kind ≠ 4 → c.row = [] ∧ c.conds = [] ∧ c.ops = [])
   (h4 : c.kind = 5 ∨ c.kind = 6 → 0 ≤ c.n ∧ c.n < 9223372036854775808) (h4' : ¬ (c.kind = 5 ∨ c.kind = 6) → c.n = 0)
   (h5 : c.kind = 7 → Rds rdQry (qryB c.q) c.q) (h5' : c.kind ≠ 7 → c.q = zq) :
   rdCmd b = if (cmdB c).length = b.length then some c else none := by
 obtain ⟨k, cl, se, row, cds, ops, m, q⟩ := c
 simp only at *
 have hd0 : b.drop 0 = [Z4 k] ++ ((if 3 ≤ k then Zh (u64 cl) ++ Zh (u64 se) else []) ++ ((if k = 4 then Zk row ++ Zh cds.length ++ cds.flatMap VN ++ Zh ops.length ++ ops.flatMap opB
    else if k = 5 ∨ k = 6 then Zh (u64 m) else if k = 7 then qryB q else []) ++ v)) := by
   rw [List.drop_zero, hb]
   simp only [cmdB, List.cons_append, List.append_assoc, List.nil_append]
 have r1 := UA (n := k) om om b 0 _ (Nat.zero_le _) hd0
 obtain ⟨l1, d1⟩ := dadv (Nat.zero_le _) hd0
 have s1 : rs1 b 0 = some ({ zc with kind := k }, 0 + [Z4 k].length) := by
   have hbo : bout k 1 7 = false := by simp [bout]; omega
   rw [rs1, r1, Option.bind_some]
   simp only [hbo, Bool.false_eq_true, ↓reduceIte]
 have s2 : rs2 b { zc with kind := k } (0 + [Z4 k].length) = some ({ zc with kind := k, client := cl, serial := se }, 0 + [Z4 k].length + (if 3 ≤ k then Zh (u64 cl) ++ Zh (u64 se) else []).length) := by
   by_cases h : 3 ≤ k
   ·have hkk : (Xx k || QA k) = true := by simp [Xx, QA]; omega
    rw [if_pos h] at d1 ⊢
    rw [List.append_assoc] at d1
    have ra := V4 (h2 h).1.1 (h2 h).1.2 b _ _ l1 d1
    obtain ⟨la, da⟩ := dadv l1 d1
    have rb := V4 (h2 h).2.1 (h2 h).2.2 b _ _ la da
    simp only [rs2, hkk, ↓reduceIte, ra, rb, Option.bind_some]
    simp only [List.length_append, Nat.add_assoc]
   ·have hkk : (Xx k || QA k) = false := by simp [Xx, QA]; omega
    obtain ⟨rfl, rfl⟩ := h2' h
    rw [if_neg h]
    simp only [rs2, hkk, Bool.false_eq_true, ↓reduceIte, List.length_nil, Nat.add_zero]
    rfl
 obtain ⟨l2, d2⟩ := dadv l1 d1
 have hlen : (cmdB ⟨k, cl, se, row, cds, ops, m, q⟩).length = 0 + [Z4 k].length + (if 3 ≤ k then Zh (u64 cl) ++ Zh (u64 se) else []).length + (if k = 4 then Zk row ++ Zh cds.length ++ cds.flatMap VN ++ Zh ops.length ++ ops.flatMap opB
    else if k = 5 ∨ k = 6 then Zh (u64 m) else if k = 7 then qryB q else []).length := by
   simp only [cmdB, List.length_cons, List.length_append, List.length_nil]; omega
 generalize hp2 : 0 + [Z4 k].length + (if 3 ≤ k then Zh (u64 cl) ++ Zh (u64 se) else []).length = p2 at *
 have s3 : rs3 b { zc with kind := k, client := cl, serial := se } p2 = some ({ zc with kind := k, client := cl, serial := se, row := row, conds := cds, ops := ops }, p2 + (if k = 4 then Zk row ++ Zh cds.length ++ cds.flatMap VN ++ Zh ops.length ++ ops.flatMap opB else []).length) := by
   by_cases h : k = 4
   ·have hkk : kOps k = true := by simp [kOps, h]
    rw [if_pos h] at d2 ⊢
    obtain ⟨g1, g2, g3, g4, g5⟩ := h3 h
    simp only [List.append_assoc] at d2
    have ra := Xe g1 b _ _ l2 d2
    obtain ⟨la, da⟩ := dadv l2 d2
    rw [← List.append_assoc] at da
    have rb := MQ g2 condB_pos g4 b _ _ la da
    obtain ⟨lb, db⟩ := dadv la da
    rw [← List.append_assoc] at db
    have rc := MQ g3 opB_pos g5 b _ _ lb db
    simp only [rs3, hkk, ↓reduceIte, ra, rb, rc, Option.bind_some]
    simp only [List.length_append, Nat.add_assoc]
   ·have hkk : kOps k = false := by simp [kOps, h]
    obtain ⟨rfl, rfl, rfl⟩ := h3' h
    rw [if_neg h]
    simp only [rs3, hkk, Bool.false_eq_true, ↓reduceIte, List.length_nil, Nat.add_zero]
    rfl
 have s4 : rs4 b { zc with kind := k, client := cl, serial := se, row := row, conds := cds, ops := ops } (p2 + (if k = 4 then Zk row ++ Zh cds.length ++ cds.flatMap VN ++ Zh ops.length ++ ops.flatMap opB else []).length) = some ({ zc with kind := k, client := cl, serial := se, row := row, conds := cds, ops := ops, n := m }, p2 + (if k = 4 then Zk row ++ Zh cds.length ++ cds.flatMap VN ++ Zh ops.length ++ ops.flatMap opB else if k = 5 ∨ k = 6 then Zh (u64 m) else []).length) := by
   by_cases h : k = 5 ∨ k = 6
   ·have hkk : 0 ≤ VJ k := by rcases h with rfl | rfl <;> decide
    have h0 : ¬ k = 4 := om
    rw [if_neg h0, if_pos h] at d2
    rw [if_neg h0, if_neg h0, if_pos h]
    have ra := V4 (h4 h).1 (h4 h).2 b _ _ l2 d2
    simp only [rs4, hkk, ↓reduceIte, List.length_nil, Nat.add_zero, ra, Option.bind_some]
   ·have hkk : ¬ 0 ≤ VJ k := by
      unfold VJ
      rw [if_neg om, if_neg om, if_neg om]; decide
    obtain rfl := h4' h
    rw [if_neg h]
    simp only [rs4, hkk, ↓reduceIte]
    rfl
 have s5 : rs5 b { zc with kind := k, client := cl, serial := se, row := row, conds := cds, ops := ops, n := m } (p2 + (if k = 4 then Zk row ++ Zh cds.length ++ cds.flatMap VN ++ Zh ops.length ++ ops.flatMap opB else if k = 5 ∨ k = 6 then Zh (u64 m) else []).length) = some (⟨k, cl, se, row, cds, ops, m, q⟩, p2 + (if k = 4 then Zk row ++ Zh cds.length ++ cds.flatMap VN ++ Zh ops.length ++ ops.flatMap opB
    else if k = 5 ∨ k = 6 then Zh (u64 m) else if k = 7 then qryB q else []).length) := by
   by_cases h : k = 7
   ·have hkk : WN k = true := by simp [WN, h]
    have h0 : ¬ k = 4 := om
    have h1 : ¬ (k = 5 ∨ k = 6) := om
    rw [if_neg h0, if_neg h1, if_pos h] at d2
    rw [if_neg h0, if_neg h1, if_neg h0, if_neg h1, if_pos h]
    have ra := h5 h b _ _ l2 d2
    simp only [rs5, hkk, ↓reduceIte, List.length_nil, Nat.add_zero, ra, Option.bind_some]
   ·have hkk : WN k = false := by simp [WN, h]
    obtain rfl := h5' h
    rw [if_neg h]
    simp only [rs5, hkk, Bool.false_eq_true, ↓reduceIte]
    rfl
 rw [hlen]
 simp only [rdCmd, s1, s2, s3, s4, s5, Option.bind_some]
structure KD (qc : Int) (s : List Fml) (c : CmdE) : Prop where
 ok : checkC qc s c = 0
 fits : c.fits
 delta : ∀ o ∈ c.ops, -9223372036854775808 ≤ o.delta ∧ o.delta < 9223372036854775808
 nums : WN c.kind = true → qc = 0 → c.q.nums
theorem KD.rd {qc : Int} {s : List Fml} {c : CmdE} (h : KD qc s c) (v : List UInt8) : rdCmd (cmdB c ++ v) = if (cmdB c).length = (cmdB c ++ v).length then some c else none := by
 obtain ⟨p0, p1, p3, p4, p5, p6, p7, p8, p9, p10, p11, _⟩ := checkC_parts h.ok
 have hs := schemaE_le p0
 simp only [bout, Bool.or_eq_false_iff, decide_eq_false_iff_not] at p1
 have hf := h.fits
 refine rdCmd_B rfl om (fun h3 => ?_) (fun h3 => ?_) (fun h4 => ?_) (fun h4 => ?_) (fun h5 => ?_) (fun h5 => ?_) (fun h7 => ?_) (fun h7 => ?_)
 ·have e : (Xx c.kind || QA c.kind) = true := by simp [Xx, QA]; omega
  have e2 : (0 : Int) ≤ (if Xx c.kind then 1 else 0) := by split <;> decide
  simp [cb3, e, bout] at p3
  simp [cb4, bout] at p4
  omega
 ·have e : QA c.kind = false := by simp [QA]; omega
  have e2 : Xx c.kind = false := by simp [Xx]; omega
  simp only [cb3, e, e2, bout, Bool.or_self, Bool.false_eq_true, ↓reduceIte, Bool.or_eq_false_iff, decide_eq_false_iff_not] at p3
  have h1 : c.client = 0 := om
  simp [cb4, bout, h1] at p4
  exact ⟨h1, by simpa using p4.2⟩
 ·have e : kOps c.kind = true := by simp [kOps, h4]
  simp [cb6, e] at p6
  simp [cb8] at p8
  exact ⟨by have := hf.row; omega, fun x hx => condOK_rds hs (p6.2 x hx), fun x hx => opOK_rds hs (h.delta x hx) (p8 x hx), by have := hf.conds; omega, by have := hf.ops; omega⟩
 ·have e : kOps c.kind = false := by simp [kOps, h4]
  simp [cb5, e] at p5
  simp [cb6, e] at p6
  simp [cb7, e] at p7
  exact ⟨p5, p6.1.1, p7⟩
 ·simp only [cb9] at p9
  rcases h5 with e | e <;> (simp [e, VJ, bout] at p9; omega)
 ·have e : VJ c.kind < 0 := by
    unfold VJ
    rw [if_neg om, if_neg om, if_neg om]; decide
  simp [cb9, e] at p9
  exact p9.1
 ·have e : WN c.kind = true := by simp [WN, h7]
  exact rds_qry (h.nums e (p10 e)) hf.frm hf.to hf.fams hf.pre hf.whr hf.token
 ·exact p11 (by simp [WN, h7])
theorem KD.pre {qc qc' : Int} {s : List Fml} {c c' : CmdE} (h : KD qc s c) (h' : KD qc' s c') {v : List UInt8} (e : cmdB c = cmdB c' ++ v) : c = c' := by
 have h1 := h.rd []
 have h2 := h'.rd v
 rw [List.append_nil, if_pos rfl, e] at h1
 rw [h1] at h2
 split at h2
 ·exact Option.some.inj h2
 ·cases h2
end Go.Rt
set_option maxRecDepth 10000
namespace Go.Proofs.YtkmkbndcekklmaaGreatDoor
open Go Go.Sx Go.Rt Go.Proofs Tryz
def ZM (q : QryE) : Int × List UInt8 × Int :=
 if q.token.length = 0 then (0, [], 0)
 else if (rfQ q.token).2.2 ≠ 0 then (0, [], 132)
 else if (ruB (rfQ q.token).1 0).2.2 ≠ 0 ∨ (ruB (rfQ q.token).1 0).1 < 1 ∨ 1099511627776 < (ruB (rfQ q.token).1 0).1 ∨ (q.time ≠ 0 ∧ (ruB (rfQ q.token).1 0).1 ≠ u64 q.time) then (0, [], 132)
 else if (rbB (rfQ q.token).1 (ruB (rfQ q.token).1 0).2.1 256).2.2 ≠ 0 ∨ (rbB (rfQ q.token).1 (ruB (rfQ q.token).1 0).2.1 256).1.length = 0 ∨ Y1 q (rbB (rfQ q.token).1 (ruB (rfQ q.token).1 0).2.1 256).1 = false ∨ (tokB q (ruB (rfQ q.token).1 0).1 (rbB (rfQ q.token).1 (ruB (rfQ q.token).1 0).2.1 256).1 == q.token) = false then (0, [], 132)
 else (((ruB (rfQ q.token).1 0).1 : Int), (rbB (rfQ q.token).1 (ruB (rfQ q.token).1 0).2.1 256).1, 0)
theorem MV (b : List UInt8) (p most : Nat) : (rbB b p most).1.length ≤ most := by
 unfold rbB
 repeat' split
 all_goals first | simp | skip
 omega
theorem rfQ_len (b : List UInt8) : (rfQ b).1.length ≤ b.length := by
 unfold rfQ rfN
 repeat' split
 all_goals first | simp | skip
 exact Nat.le_trans (Nat.min_le_right _ _) (Nat.sub_le _ _)
theorem kl_nums (l : List Int) (n : Nat) : (Zu l).kl n := XQ (fun x : Int => .int .i64 x) (fun _ => trivial) _
theorem kl_qry (q : QryE) (n : Nat) : (Zg q).kl n := ⟨WM _ _, WM _ _, kl_nums _ _, WM _ _, trivial, trivial, trivial, trivial, trivial, WM _ _, trivial⟩
theorem c_tok_lent (q : QryE) (hq : q.fine) (time : Int) (row : List UInt8) (hr : row.length ≤ 256) {H : Heap} (ha : (1 : Nat) ≠ 1 → H 1 = some (.glob 5 Np)) (hb : H 1 = some (.glob 1 UO)) {a qa : AV} (hf : Frz H 0 a (bys row)) (hqf : Frz H 0 qa (Zg q)) (n : Nat) : Ret prog 56 [.agg [.int .i64 time, a], qa] H n (bys (tokB q time row)) H n :=
 Ret.below hb fun g2 => by
   have key : GOK 1 1 H n → Ret prog 56 [.agg [.int .i64 time, a], qa] H n (bys (tokB q time row)) H n := fun hG =>
     OAns.fin (OAns.lend (VK hG) (.cons (.agg (.cons (.kl trivial) (.cons hf .nil))) (.cons hqf .nil)) (Vi q hq time row hr (JL hG.gek hG.get)))
   by_cases hne : (1 : Nat) = 1
   ·exact key ⟨ha, hb, om, g2⟩
   ·exact Ret.below (ha hne) fun g1 => key ⟨ha, hb, g1, g2⟩
theorem NQl0.eqs {P Q : Prop} (g : Imp P Q := by (try simp only [go_sem, seval, hsz, hag, hmo, f1, f2, f3, f4, f5, f6, hs, g1, g2, l1, l2, hql, hs1, hs2, hs3, ruAV, rbAV, Zg, Zu, bys, List.length_map, ZZ, hx]); exact Pm) : Imp P Q := g
set_option maxHeartbeats 3200000 in
open NQl0 NY in
theorem Kb (q : QryE) (hq : q.fine) {H : Heap} {n : Nat} (hG : GOK 1 1 H n) : Zn prog 59 [Zg q] H n (OAns H n (.tup [.agg [.int .i64 (ZM q).1, bys (ZM q).2.1], .int .i64 (ZM q).2.2])) := by
 have hsz : (Zg q).sz = 10 := Z6 q
 have hag : (Zg q).isAgg = true := rfl
 have hmo : (Zg q).memOK = true := rfl
 obtain ⟨z, hz⟩ : ∃ z, z = ZM q := ⟨_, rfl⟩
 rw [← hz]
 unfold ZM at hz
 have hfl := rfQ_len q.token
 have htl := hq.token
 obtain ⟨fr, hfr⟩ : ∃ f, f = rfQ q.token := ⟨_, rfl⟩
 rw [← hfr] at hz hfl
 obtain ⟨hu1, hu2, hu3⟩ := ruB_lt fr.1 0
 obtain ⟨u, hu⟩ : ∃ u, u = ruB fr.1 0 := ⟨_, rfl⟩
 rw [← hu] at hz hu1 hu2 hu3
 have hbm := MV fr.1 u.2.1 256
 obtain ⟨rb, hrb⟩ : ∃ b, b = rbB fr.1 u.2.1 256 := ⟨_, rfl⟩
 rw [← hrb] at hz hbm
 have hx := hsz
 have hgk := hG.gek
 have hgt := hG.get
 have f1 : (n = n + 1) = False := osi
 have f2 : (n + 1 = n) = False := osi
 have f3 : (n = n + 2) = False := osi
 have f4 : (n + 1 = n + 2) = False := osi
 have f5 : (n + 2 = n) = False := osi
 have f6 : (n + 2 = n + 1) = False := osi
 have hs := hsz
 have g1 := hsz
 have g2 := hsz
 have l1 := hsz
 have l2 := hsz
 have hql := hsz
 have hs1 := hsz
 have hs2 := hsz
 have hs3 := hsz
 refine fw func59 ntmps59 results59 ?_
 refine rg zs [1, 2] ?_
 refine Za fun K1 hK1 => ?_
 refine rg zs [1, 2, 15] ?_
 refine Zb ?_ ?_ <;> intro hb
 ·have h0 : q.token.length = 0 := by have h9 := hb; simp at h9; simp [h9]
  rw [if_pos h0] at hz
  exact kbc
 have h0 : ¬ q.token.length = 0 := by have h9 := hb; simp at h9; simp [h9]
 rw [if_neg h0] at hz
 refine kay ?_
 refine rk zs [1, 2, 4, 6] fun K V => ?_
 refine ck func92 ((hfr ▸ Lh q.token om (hG.on (fun k hk => oh) om))) ?_
 refine kas ?_
 refine Za fun K2 hK2 => ?_
 refine rg zs [1, 2, 4, 25] ?_
 refine Zb ?_ ?_ <;> intro hb
 ·rw [if_pos osb] at hz
  exact kbc
 rw [if_neg osb] at hz
 refine kaQ ?_
 refine rk zs [1, 2, 4, 6, 7, 8] fun K V => ?_
 refine ck func93 ((hu ▸ Qf fr.1 0 om om _ _)) ?_
 refine kas ?_
 refine Za fun K3 hK3 => ?_
 refine rg zs [1, 2, 4, 7, 8, 54] ?_
 refine Zb ?_ ?_ <;> intro hb
 ·have hc : u.2.2 ≠ 0 ∨ u.1 < 1 ∨ 1099511627776 < u.1 ∨ (q.time ≠ 0 ∧ u.1 ≠ u64 q.time) := by grind
  rw [if_pos hc] at hz
  exact kbc
 have hc : ¬ (u.2.2 ≠ 0 ∨ u.1 < 1 ∨ 1099511627776 < u.1 ∨ (q.time ≠ 0 ∧ u.1 ≠ u64 q.time)) := by grind
 rw [if_neg hc] at hz
 have hx : IntKind.i64.wrap (u.1 : Int) = (u.1 : Int) := w64 om om
 refine kba ?_
 refine rk zs [1, 2, 6, 7, 9] fun K V => ?_
 refine cK func94 (hrb ▸ KX fr.1 u.2.1 256 om om om _ _) ?_ ?_
 ·intro p H' n' hc; exact hc.pan.elim
 intro rr H2 n2 hc
 obtain ⟨ks, hM⟩ := hc.got
 obtain ⟨a, rfl, ho⟩ := hM.own.tupII_shape
 have hs := fun g => ho.strip g
 have hn2 := hM.nn
 have g1 : (n = n2) = False := oz
 have g2 : (n + 1 = n2) = False := oz
 have l1 := hM.low n om
 have l2 := hM.low (n + 1) om
 have hql := ho.qLen prog 22
 rw [List.length_map] at hql
 have hak : ∀ (Hc : Heap), (∀ k, k < n2 → Hc k = H2 k) → ∀ m, Ret prog 95 [Zg q, a] Hc m (.bool (Y1 q rb.1)) Hc m := fun Hc hc m => Ret.lend trivial (.cons (.kl (kl_qry q 0)) (.cons (ho.lnt.on fun k hk => hc k (by have := hM.lo k hk; omega)).frz .nil)) (c_query_asks q rb.1 _ _)
 have hfz : ∀ (Hc : Heap), (∀ k, k < n2 → Hc k = H2 k) → Frz Hc 0 a (bys rb.1) := fun Hc hc => (ho.lnt.on fun k hk => hc k (by have := hM.lo k hk; omega)).frz
 obtain ⟨hs1, hs2, hs3⟩ := ho.sl_sz
 refine nz ?_
 refine kas ?_
 refine rg zs [1, 2, 6, 9, 11] ?_
 refine Za fun K4 hK4 => ?_
 refine dx zs [2, 11, 88] [.m, .q, .m, .m, .q, .q, .q, .m, .q, .m, .c, .q, .q, .m, .q, .q, .c, .q, .q, .c, .q, .q] [0, 1, 2, 3, 4, 5, 6, 7, 8, 9, 10, 11, 12, 13, 14, 15, 16, 17, 18, 19, 20, 21] [0, 1, 2, 3, 4, 5, 6, 7, 8, 9, 10, 11, 12, 13, 14, 15, 16, 17, 18, 19, 20, 21] fun K V => ?_
 refine cq func95 (fun _ n => (hak _ (fun k hk => oh) n)) ?_
 refine cq func56 (fun _ n => (c_tok_lent q hq u.1 rb.1 hbm (fun hne => by refine ohx ?_; rw [hM.low _ om]; refine ohx ?_; exact hG.kindsC hne) (by refine ohx ?_; rw [hM.low _ om]; refine ohx ?_; exact hG.table) (hfz _ (fun k hk => oh)) (.kl (kl_qry q 0)) n)) ?_
 refine cq func96 (fun _ n => (Us (tokB q u.1 rb.1) q.token _ _)) ?_
 refine kas ?_
 refine Zb ?_ ?_ <;> intro hb
 ·have hc2 : rb.2.2 ≠ 0 ∨ rb.1.length = 0 ∨ Y1 q rb.1 = false ∨ (tokB q u.1 rb.1 == q.token) = false := by grind
  rw [if_pos hc2] at hz
  refine rg zs [2, 3] ?_
  refine ar ?_
  rw [hz]
  exact OAns.emp (PL (P6 .nilsl)) (fun k hk => by refine ohx ?_; rw [hM.low k om]; exact oh) om
 have hc2 : ¬ (rb.2.2 ≠ 0 ∨ rb.1.length = 0 ∨ Y1 q rb.1 = false ∨ (tokB q u.1 rb.1 == q.token) = false) := by grind
 rw [if_neg hc2] at hz
 refine kb3 ?_
 refine rg zs [2, 3] ?_
 refine ar ?_
 rw [hz]
 exact ⟨_, ks, rfl, PL (P6 (ho.frame fun k hk => by (try simp only [Pj]); (repeat rw [if_neg (by have := hM.lo k hk; omega)]))), hM.nd, fun k hk => by have := hM.lo k hk; omega, fun k hk => by refine ohx ?_; rw [hM.low k om]; (try simp only [Pj]); (repeat first | rw [if_pos rfl] | rw [if_pos trivial] | rw [if_neg om]), om⟩
theorem U8 (q : QryE) (hq : q.fine) {H : Heap} {n : Nat} (hG : GOK 1 1 H n) : Ret prog 59 [Zg q] H n (.tup [.agg [.int .i64 (ZM q).1, bys (ZM q).2.1], .int .i64 (ZM q).2.2]) H n := OAns.fin (Kb q hq hG)
def qcE (fs : List Fml) (q : QryE) : Int :=
 if Zv fs ≠ 0 then Zv fs
 else if Yk fs.length q = false then 130
 else if 0 < q.whr.length ∧ (Y5 fs q.whr).2.1 ≠ 0 then (Y5 fs q.whr).2.1
 else (ZM q).2.2
theorem NQl1.eqs {P Q : Prop} (g : Imp P Q := by (try simp only [go_sem, seval, hsz, hag, hmo, hszs, hags, hmos, f1, f2, Zi, Zg, Zu, bys, List.length_map]); exact Pm) : Imp P Q := g
set_option maxHeartbeats 1600000 in
open NQl1 NY in
theorem c_query_Check (fs : List Fml) (hfs : fs.length ≤ 1048576) (q : QryE) (hq : q.fine) {H : Heap} {n : Nat} (hG : GOK 1 1 H n) : Ret prog 34 [Zi fs, Zg q] H n (.int .i64 (qcE fs q)) H n := by
 have hsz : (Zg q).sz = 10 := Z6 q
 have hag : (Zg q).isAgg = true := rfl
 have hmo : (Zg q).memOK = true := rfl
 have hszs : (Zi fs).sz = 1 := rfl
 have hags : (Zi fs).isAgg = true := rfl
 have hmos : (Zi fs).memOK = true := rfl
 obtain ⟨z, hz⟩ : ∃ z, z = qcE fs q := ⟨_, rfl⟩
 rw [← hz]
 unfold qcE at hz
 have f1 : (n = n + 1) = False := osi
 have f2 : (n + 1 = n) = False := osi
 refine Ret.fin ?_
 refine fw func34 ntmps34 results34 ?_
 refine rg zs [2, 3] ?_
 refine Za fun K1 hK1 => ?_
 refine rc zs [2, 3, 5] func66 ((VS fs _ _)) ?_
 refine rg zs [2, 3, 5, 14] ?_
 refine Zb ?_ ?_ <;> intro hb
 ·rw [if_pos osb] at hz
  refine kag ?_
  exact kbq
 rw [if_neg osb] at hz
 refine kay ?_
 refine Za fun K2 hK2 => ?_
 refine rc zs [2, 3, 19] func67 ((c_query_fits fs hfs q hq.fams _ _)) ?_
 refine Zb ?_ ?_ <;> intro hb
 ·rw [if_pos osb] at hz
  refine kag ?_
  exact kbq
 rw [if_neg osb] at hz
 refine kaQ ?_
 refine Za fun K3 hK3 => ?_
 refine rg zs [2, 3, 23] ?_
 refine Zb ?_ ?_ <;> intro hb
 ·have hw0 : 0 < q.whr.length := ott
  refine rc zs [3, 7] func39 ((JQ fs hfs q.whr _ _)) ?_
  refine rg zs [3, 7, 33] ?_
  refine Zb ?_ ?_ <;> intro hb
  ·rw [if_pos ⟨hw0, osb⟩] at hz
   refine kag ?_
   exact kbq
  rw [if_neg (fun h => h.2 osb)] at hz
  refine kba ?_
  refine rk zs [10] fun K V => ?_
  refine ck func59 ((U8 q hq (hG.on (fun k hk => oh) om))) ?_
  refine kas ?_
  refine kag ?_
  exact kbq
 rw [if_neg (fun h => otf)] at hz
 refine kba ?_
 refine rk zs [10] fun K V => ?_
 refine ck func59 ((U8 q hq (hG.on (fun k hk => oh) om))) ?_
 refine kas ?_
 refine kag ?_
 exact kbq
end Go.Proofs.YtkmkbndcekklmaaGreatDoor
set_option maxRecDepth 10000
namespace Go.Proofs.YtkmkbndcekklmaaGreatDoor
open Go Go.Sx Go.Rt Go.Proofs
def bitS (x : Nat × Nat) : Nat × Nat := (if x.1 % 2 ≠ x.2 % 2 then x.1 / 2 ^^^ 2197175160 else x.1 / 2, x.2 / 2)
def mS (m l e : Nat) : Nat := m / 2 ^^^ (if (l + m) % 2 ≠ e % 2 then 2197175160 else 0)
def nibM (l e : Nat) : Nat := mS (mS (mS (mS 0 l e) (l / 2) (e / 2)) (l / 4) (e / 4)) (l / 8) (e / 8)
theorem xor_par (x y : Nat) : (x ^^^ y) % 2 = (x + y) % 2 := by
 have h := Nat.xor_mod_two_pow (a := x) (b := y) (n := 1)
 rw [Nat.pow_one] at h
 rw [h, Nat.add_mod]
 rcases Nat.mod_two_eq_zero_or_one x with hx | hx <;> rcases Nat.mod_two_eq_zero_or_one y with hy | hy <;> rw [hx, hy] <;> rfl
theorem bit1 (R m c : Nat) : bitS (R ^^^ m, c) = (R / 2 ^^^ mS m R c, c / 2) := by
 unfold bitS mS
 simp only [xor_par, Nat.xor_div_two]
 split
 ·rw [Nat.xor_assoc]
 ·rw [Nat.xor_zero]
theorem mS_par {m l l' e e' : Nat} (h : l % 2 = l' % 2) (h2 : e % 2 = e' % 2) : mS m l e = mS m l' e' := by
 unfold mS
 rw [Nat.add_mod, h, ← Nat.add_mod, h2]
theorem nib (r c : Nat) : bitS (bitS (bitS (bitS (r, c)))) = (r / 16 ^^^ nibM (r % 16) (c % 16), c / 16) := by
 have e0 : (r, c) = (r ^^^ 0, c) := by rw [Nat.xor_zero]
 rw [e0, bit1, bit1, bit1, bit1]
 simp only [Nat.div_div_eq_div_mul]
 unfold nibM
 rw [mS_par (m := 0) (l := r) (l' := r % 16) (e := c) (e' := c % 16) om om, mS_par (l := r / 2) (l' := r % 16 / 2) (e := c / 2) (e' := c % 16 / 2) om om,
   mS_par (l := r / (2 * 2)) (l' := r % 16 / 4) (e := c / (2 * 2)) (e' := c % 16 / 4) om om, mS_par (l := r / (2 * 2 * 2)) (l' := r % 16 / 8) (e := c / (2 * 2 * 2)) (e' := c % 16 / 8) om om]
theorem Ke : ∀ l e : Fin 16, ((nibM l.1 e.1 : Nat) : Int) = tabQ ((l.1 ^^^ e.1 : Nat) : Int) ∧ nibM l.1 e.1 < 4294967296 := by decide +kernel
theorem xor32 {a b : Nat} (ha : a < 4294967296) (hb : b < 4294967296) : intBits .xor .u32 (a : Int) (b : Int) = ((a ^^^ b : Nat) : Int) := by
 have h3 : a ^^^ b < 4294967296 := Nat.xor_lt_two_pow (n := 32) ha hb
 show IntKind.u32.wrap (((BitVec.ofInt 32 (a : Int)) ^^^ (BitVec.ofInt 32 (b : Int))).toNat : Int) = _
 rw [BitVec.ofInt_natCast, BitVec.ofInt_natCast, BitVec.toNat_xor, BitVec.toNat_ofNat, BitVec.toNat_ofNat, Nat.mod_eq_of_lt ha, Nat.mod_eq_of_lt hb, IntKind.wrap_u32]
 omega
theorem low4 (r c : Nat) : intBits .and .u8 (intBits .xor .u8 (IntKind.u8.wrap (r : Int)) (c : Int)) 15 = (((r % 16) ^^^ (c % 16) : Nat) : Int) := by
 have h1 : intBits .xor .u8 (IntKind.u8.wrap (r : Int)) (c : Int) = (((r % 256) ^^^ (c % 256) : Nat) : Int) := by
   have h3 : (r % 256) ^^^ (c % 256) < 256 := Nat.xor_lt_two_pow (n := 8) (Nat.mod_lt _ odc) (Nat.mod_lt _ odc)
   show IntKind.u8.wrap (((BitVec.ofInt 8 (IntKind.u8.wrap (r : Int))) ^^^ (BitVec.ofInt 8 (c : Int))).toNat : Int) = _
   rw [show IntKind.u8.wrap (r : Int) = ((r % 256 : Nat) : Int) by rw [IntKind.wrap_u8]; omega, BitVec.ofInt_natCast, BitVec.ofInt_natCast, BitVec.toNat_xor, BitVec.toNat_ofNat, BitVec.toNat_ofNat, IntKind.wrap_u8]
   rw [show r % 256 % 2 ^ 8 = r % 256 by omega, show c % 2 ^ 8 = c % 256 by omega]
   omega
 rw [h1]
 show IntKind.u8.wrap (((BitVec.ofInt 8 (((r % 256) ^^^ (c % 256) : Nat) : Int)) &&& (BitVec.ofInt 8 15)).toNat : Int) = _
 have h3 : (r % 256) ^^^ (c % 256) < 256 := Nat.xor_lt_two_pow (n := 8) (Nat.mod_lt _ odc) (Nat.mod_lt _ odc)
 rw [BitVec.ofInt_natCast, show BitVec.ofInt 8 15 = 15#8 by decide, BitVec.toNat_and, BitVec.toNat_ofNat, Nat.mod_eq_of_lt h3]
 have h4 : (r % 256 ^^^ c % 256) &&& (15#8).toNat = (r % 16) ^^^ (c % 16) := by
   rw [show (15#8).toNat = 2 ^ 4 - 1 by decide, Nat.and_two_pow_sub_one_eq_mod, Nat.xor_mod_two_pow]
   rw [show r % 256 % 2 ^ 4 = r % 16 by omega, show c % 256 % 2 ^ 4 = c % 16 by omega]
 rw [h4, IntKind.wrap_u8]
 have h5 : (r % 16) ^^^ (c % 16) < 16 := Nat.xor_lt_two_pow (n := 4) (Nat.mod_lt _ odc) (Nat.mod_lt _ odc)
 omega
def bit8 (r c : Nat) : Nat := (bitS (bitS (bitS (bitS (bitS (bitS (bitS (bitS (r, c))))))))).1
theorem sumS_bit {r : Nat} (hr : r < 4294967296) (b : UInt8) : sumS (r : Int) b = ((bit8 r b.toNat : Nat) : Int) ∧ bit8 r b.toNat < 4294967296 := by
 have hbl := b.toNat_lt
 have n1 := Ke ⟨r % 16, Nat.mod_lt _ odc⟩ ⟨b.toNat % 16, Nat.mod_lt _ odc⟩
 simp only at n1
 obtain ⟨r1, hr1⟩ : ∃ x, x = r / 16 ^^^ nibM (r % 16) (b.toNat % 16) := ⟨_, rfl⟩
 have hr1l : r1 < 4294967296 := by rw [hr1]; exact Nat.xor_lt_two_pow (n := 32) om n1.2
 have n2 := Ke ⟨r1 % 16, Nat.mod_lt _ odc⟩ ⟨b.toNat / 16 % 16, Nat.mod_lt _ odc⟩
 simp only at n2
 have e8 : bit8 r b.toNat = r1 / 16 ^^^ nibM (r1 % 16) (b.toNat / 16 % 16) := by
   unfold bit8
   rw [show bitS (bitS (bitS (bitS (r, b.toNat)))) = (r1, b.toNat / 16) by rw [nib, ← hr1], nib]
 have f1 : (r : Int).fdiv (2 ^ min 4 32) = ((r / 16 : Nat) : Int) := by rw [show (2 : Int) ^ min 4 32 = 16 by decide, Int.fdiv_eq_ediv_of_nonneg _ odc]; omega
 have f2 : (r1 : Int).fdiv (2 ^ min 4 32) = ((r1 / 16 : Nat) : Int) := by rw [show (2 : Int) ^ min 4 32 = 16 by decide, Int.fdiv_eq_ediv_of_nonneg _ odc]; omega
 have f3 : (b.toNat : Int).fdiv (2 ^ min 4 8) = ((b.toNat / 16 : Nat) : Int) := by rw [show (2 : Int) ^ min 4 8 = 16 by decide, Int.fdiv_eq_ediv_of_nonneg _ odc]; omega
 refine ⟨?_, by rw [e8]; exact Nat.xor_lt_two_pow (n := 32) om n2.2⟩
 unfold sumS
 simp only [low4, f1, ← n1.1]
 rw [xor32 om n1.2, ← hr1]
 simp only [low4, f2, f3, ← n2.1]
 rw [xor32 om n2.2, e8]
end Go.Proofs.YtkmkbndcekklmaaGreatDoor
set_option maxRecDepth 10000
namespace Go.Proofs.YtkmkbndcekklmaaGreatDoor
open Go Go.Sx Go.Rt Go.Proofs Tryz
def bitN : Nat → Nat × Nat → Nat × Nat
 | 0, x => x
 | k + 1, x => bitN k (bitS x)
theorem bitS_lt {x : Nat × Nat} (h1 : x.1 < 4294967296) (h2 : x.2 < 256) : (bitS x).1 < 4294967296 ∧ (bitS x).2 < 256 := by
 unfold bitS
 refine ⟨?_, by simp only; omega⟩
 simp only
 split
 ·exact Nat.xor_lt_two_pow (n := 32) om odc
 ·omega
theorem xor_ones {r : Nat} (h : r < 4294967296) : 4294967295 ^^^ r = 4294967295 - r := by
 have h1 : (BitVec.allOnes 32 ^^^ BitVec.ofNat 32 r).toNat = (~~~ (BitVec.ofNat 32 r)).toNat := by rw [BitVec.allOnes_xor]
 rw [BitVec.toNat_xor, BitVec.toNat_not, BitVec.toNat_ofNat, Nat.mod_eq_of_lt h, show (BitVec.allOnes 32).toNat = 4294967295 by decide] at h1
 omega
theorem NHh0.eqs {P Q : Prop} (g : Imp P Q := by (try simp only [go_sem, seval, List.length_map]); exact Pm) : Imp P Q := g
set_option maxHeartbeats 1600000 in
open NHh0 NY in
theorem NN (parts : List (List UInt8)) (hp : parts.length ≤ 1048576) (hbs : ∀ b ∈ parts, b.length ≤ 1099511627776) (H : Heap) (n : Nat) : Ret prog 127 [.sl 1 (parts.map bys)] H n (.int .u32 (sumF parts)) H n := by
 refine fw func127 ntmps127 results127 ?_
 refine kcu ?_
 refine rg zs [0, 3] ?_
 refine Za fun K1 hK1 => ?_
 refine rg zs [0, 3, 4] ?_
 refine kbM ?_
 refine Zp (fun T' H' n' => ∃ i r : Nat, i ≤ parts.length ∧ r < 4294967296 ∧ (r : Int) = (parts.take i).foldl sumP 4294967295 ∧ T' = tl [(0, .sl 1 (parts.map bys)), (3, .int .u32 r), (4, .int .i64 i)] ∧ H = H' ∧ n = n') (fun T' _ _ => parts.length - iv (T' 4)) ?_ ?_
 ·exact ⟨0, 4294967295, Nat.zero_le _, odc, rfl, rfl, rfl, rfl⟩
 rintro T1 H1 n1 ⟨i, r, hi, hr, hrf, rfl, rfl, rfl⟩
 refine Za fun K2 hK2 => ?_
 refine rg zs [0, 3, 4, 12] ?_
 refine Zb ?_ ?_ <;> intro hb
 ·have hlt : i < parts.length := ott
  have hnth : nth (parts.map bys) i = bys (parts.getD i []) := Zx bys parts _ hlt
  have hm : parts.getD i [] ∈ parts := by rw [show parts.getD i [] = parts[i] by simp [List.getD, hlt]]; exact List.getElem_mem hlt
  have hstep : (parts.take (i + 1)).foldl sumP 4294967295 = sumP (r : Int) (parts.getD i []) := by rw [List.take_succ_eq_append_getElem hlt, List.foldl_append, ← hrf]; simp [List.getD, hlt]
  obtain ⟨b, hbd⟩ : ∃ b, b = parts.getD i [] := ⟨_, rfl⟩
  rw [← hbd] at hnth hm hstep
  have hbl := hbs b hm
  refine kaQ ?_
  refine bk fun K3 hK3 => ?_
  refine rg zs [0, 3, 4, 5] ?_
  refine kbM ?_
  refine Zp (fun T' H' n' => ∃ j x : Nat, j ≤ b.length ∧ x < 4294967296 ∧ (x : Int) = sumP (r : Int) (b.take j) ∧ T' = tl [(0, .sl 1 (parts.map bys)), (3, .int .u32 x), (4, .int .i64 i), (5, .int .i64 j)] ∧ H = H' ∧ n = n') (fun T' _ _ => b.length - iv (T' 5)) ?_ ?_
  ·exact ⟨0, r, Nat.zero_le _, hr, rfl, rfl, rfl, rfl⟩
  rintro T1 H1 n1 ⟨j, x, hj, hx, hxf, rfl, rfl, rfl⟩
  refine Za fun K4 hK4 => ?_
  refine Zf zs [0, 3, 4, 5, 21] fun K V => ?_
  try simp only [go_sem, seval, List.length_map, hnth, Int.toNat_natCast]
  repeat (first | (refine And.intro ?_ ?_; · first | exact ⟨om, om⟩) | refine peel ?_)
  refine kas ?_
  refine Zb ?_ ?_ <;> intro hb
  ·have hltj : j < b.length := ott
   have hntj : nth (b.map Zd) j = Zd (b.getD j 0) := Zx Zd b _ hltj
   have hst : sumP (r : Int) (b.take (j + 1)) = sumS (x : Int) (b.getD j 0) := by unfold sumP at hxf ⊢; rw [List.take_succ_eq_append_getElem hltj, List.foldl_append, ← hxf]; simp [List.getD, hltj]
   have hbit := sumS_bit hx (b.getD j 0)
   have hcl := (b.getD j 0).toNat_lt
   refine kb3 ?_
   refine bk fun K5 hK5 => ?_
   refine Zf zs [0, 3, 4, 5, 6] fun K V => ?_
   try simp only [go_sem, seval, List.length_map, hnth, hntj, Int.toNat_natCast]
   repeat (first | (refine And.intro ?_ ?_; · first | exact ⟨om, om⟩) | refine peel ?_)
   refine kas ?_
   refine rg zs [0, 3, 4, 5, 6, 7] ?_
   refine kbM ?_
   refine Zp (fun T' H' n' => ∃ (k : Nat) (y : Nat × Nat), k ≤ 8 ∧ y.1 < 4294967296 ∧ y.2 < 256 ∧ (bitN (8 - k) y).1 = bit8 x (b.getD j 0).toNat ∧ T' = tl [(0, .sl 1 (parts.map bys)), (3, .int .u32 y.1), (4, .int .i64 i), (5, .int .i64 j), (6, .int .u8 y.2), (7, .int .i64 k)] ∧ H = H' ∧ n = n') (fun T' _ _ => 8 - iv (T' 7)) ?_ ?_
   ·exact ⟨0, (x, (b.getD j 0).toNat), om, hx, hcl, rfl, rfl, rfl, rfl⟩
   rintro T1 H1 n1 ⟨k, y, hk, hy1, hy2, hyb, rfl, rfl, rfl⟩
   refine Za fun K6 hK6 => ?_
   refine rg zs [0, 3, 4, 5, 6, 7, 32] ?_
   refine Zb ?_ ?_ <;> intro hb
   ·have hk8 : k < 8 := ott
    have d1 : IntKind.u32.wrap ((y.1 : Int).tdiv 2) = ((y.1 / 2 : Nat) : Int) := by rw [Int.tdiv_eq_ediv_of_nonneg om, IntKind.wrap_u32]; omega
    have d2 : IntKind.u8.wrap ((y.2 : Int).tdiv 2) = ((y.2 / 2 : Nat) : Int) := by rw [Int.tdiv_eq_ediv_of_nonneg om, IntKind.wrap_u8]; omega
    have d3 : IntKind.u32.wrap ((y.1 : Int).tmod 2) = ((y.1 % 2 : Nat) : Int) := by rw [Int.tmod_eq_emod_of_nonneg om, IntKind.wrap_u32]; omega
    have d4 : IntKind.u32.wrap (y.2 : Int) = (y.2 : Int) := by rw [IntKind.wrap_u32]; omega
    have d5 : IntKind.u32.wrap ((y.2 : Int).tmod 2) = ((y.2 % 2 : Nat) : Int) := by rw [Int.tmod_eq_emod_of_nonneg om, IntKind.wrap_u32]; omega
    have d7 : (y.1 : Int).tmod 2 = ((y.1 % 2 : Nat) : Int) := by rw [Int.tmod_eq_emod_of_nonneg om]; omega
    have d8 : (y.2 : Int).tmod 2 = ((y.2 % 2 : Nat) : Int) := by rw [Int.tmod_eq_emod_of_nonneg om]; omega
    have hn : bitN (8 - (k + 1)) (bitS y) = bitN (8 - k) y := by rw [show 8 - k = (8 - (k + 1)) + 1 by omega]; rfl
    refine ak ?_
    apply hK6
    refine bk fun K7 hK7 => ?_
    refine Zf zs [0, 3, 4, 5, 6, 7, 8] fun K V => ?_
    try simp only [go_sem, seval, List.length_map, d3, d4, d5]
    refine kad ?_
    refine Zf zs [0, 3, 4, 5, 6, 7, 8] fun K V => ?_
    try simp only [go_sem, seval, List.length_map, d1]
    refine kad ?_
    refine Zf zs [0, 3, 4, 5, 6, 7, 8] fun K V => ?_
    try simp only [go_sem, seval, List.length_map, d2]
    refine kad ?_
    refine rg zs [0, 3, 4, 5, 6, 7, 45] ?_
    refine Zb ?_ ?_ <;> intro hb
    ·have hodd : y.1 % 2 ≠ y.2 % 2 := by have h9 := hb; rw [d7, d8] at h9; simp only [bne_iff_ne, ne_eq, bne_eq_false_iff_eq] at h9; omega
     have hB : bitS y = (y.1 / 2 ^^^ 2197175160, y.2 / 2) := by unfold bitS; rw [if_pos hodd]
     have d6 : intBits .xor .u32 ((y.1 / 2 : Nat) : Int) 2197175160 = ((y.1 / 2 ^^^ 2197175160 : Nat) : Int) := xor32 (a := y.1 / 2) (b := 2197175160) om odc
     refine ZG zs [0, 3, 4, 5, 6, 7] fun K V => ?_
     try simp only [go_sem, seval, List.length_map, d6]
     refine kad ?_
     refine ns ?_
     exact kbn
    have hodd : ¬ (y.1 % 2 ≠ y.2 % 2) := by have h9 := hb; rw [d7, d8] at h9; simp only [bne_iff_ne, ne_eq, bne_eq_false_iff_eq] at h9; omega
    have hB : bitS y = (y.1 / 2, y.2 / 2) := by unfold bitS; rw [if_neg hodd]
    refine ak ?_
    exact kbn
   have hk8 : k = 8 := otf
   subst hk8
   have hyb : y.1 = bit8 x (b.getD j 0).toNat := hyb
   refine ax ?_
   apply hK5
   refine rg1 zs [0, 3, 4, 5] ?_
   exact ⟨⟨j + 1, y.1, om, hy1, by rw [hst, hbit.1, hyb], by rw [w1 om]⟩, by rw [w1 om]; simp; omega⟩
  have hgej : j = b.length := otf
  refine ax ?_
  apply hK3
  refine rg1 zs [0, 3, 4] ?_
  exact ⟨⟨i + 1, x, om, hx, by rw [hstep, hxf, hgej, List.take_length], by rw [w1 om]⟩, by rw [w1 om]; simp; omega⟩
 have hge : i = parts.length := otf
 refine ax ?_
 apply hK1
 refine kal ?_
 rw [hge, List.take_length] at hrf
 unfold sumF
 rw [← hrf, show (4294967295 : Int) = ((4294967295 : Nat) : Int) from rfl, xor32 odc hr, xor_ones hr, IntKind.wrap_u32]
 congr 2; omega
theorem NHi0.eqs {P Q : Prop} (g : Imp P Q := by (try simp only [go_sem, seval, Zq]); exact Pm) : Imp P Q := g
theorem NHi0.sd {P : Prop} (g : P := by first | exact Yl _ | fail) : P := g
open NHi0 NZ in
theorem Ua (a b : List UInt8) (H : Heap) (n : Nat) : Ret prog 46 [bys a, bys b] H n (.bool (a == b)) H n := by
 refine fw func46 ntmps46 results46 ?_
 refine kb1 ?_
 refine kag ?_
 trivial
theorem NHi1.eqs {P Q : Prop} (g : Imp P Q := by (try simp only [go_sem, seval, List.length_map]); exact Pm) : Imp P Q := g
open NHi1 NY in
theorem VQ (b : List UInt8) (p : Int) (H : Heap) (n : Nat) : Ret prog 132 [bys b, .int .i64 p] H n (.bool (decide (p < 0) || decide ((b.length : Int) < p))) H n := by
 refine fw func132 ntmps132 results132 ?_
 refine kb1 ?_
 refine kag ?_
 cases decide (p < 0) <;> simp
theorem NHi2.eqs {P Q : Prop} (g : Imp P Q := by (try simp only [go_sem, seval, List.length_map, e1, Option.getD_some, Int.toNat_natCast]); exact Pm) : Imp P Q := g
theorem NHi2.sd {P : Prop} (g : P := by first | exact ⟨.inr trivial, om, om⟩ | fail) : P := g
open NHi2 NZ in
theorem Qz (b : List UInt8) (hb : b.length ≤ 1099511627776) (lo hi : Nat) (h1 : lo ≤ hi) (h2 : hi ≤ b.length) (H : Heap) (n : Nat) : Ret prog 58 [bys b, .int .i64 lo, .int .i64 hi] H n (.osl n 1 0 ((b.take hi).drop lo).length) (H.put n (some (.arr 1 1 (((b.take hi).drop lo).map Zd)))) (n + 1) := by
 have e1 : List.drop lo (List.take hi (b.map Zd)) = ((b.take hi).drop lo).map Zd := by rw [List.map_drop, List.map_take]
 have hl : ((b.take hi).drop lo).length ≤ b.length := by rw [List.length_drop, List.length_take]; omega
 refine fw func58 ntmps58 results58 ?_
 refine rg zs [0, 1, 2] ?_
 refine rg zs [0, 1, 2, 7] ?_
 refine Z8 7 1 rfl ?_
 simp only [go_sem, seval]
 refine rg zs [6] ?_
 refine ar ?_
 trivial
theorem QN (b : List UInt8) (hb : b.length ≤ 1099511627776) (lo hi : Nat) (h1 : lo ≤ hi) (h2 : hi ≤ b.length) (H : Heap) (n : Nat) : Ret prog 58 [bys b, .int .i64 lo, .int .i64 hi] H n (bys ((b.take hi).drop lo)) H n :=
 by
   have h := Qz b hb lo hi h1 h2 H n
   generalize (b.take hi).drop lo = w at h ⊢
   exact Ret.fin (h.mono fun res H1 n1 ⟨hr, hH, hn⟩ => ⟨_, hr, fun k hk => by rw [hH, Pi _ _ om], by
     rw [hH]; exact .osl (Pk _ _ _) (Nat.le_refl _) osi (by rw [List.drop_zero, List.take_of_length_le osi]; exact XR _ (JK _ n))⟩)
theorem NHi3.eqs {P Q : Prop} (g : Imp P Q := by (try simp only [go_sem, seval, fdiv8, fdiv16, fdiv24, Xv]); exact Pm) : Imp P Q := g
theorem NHi3.sd {P : Prop} (g : P := by first | exact ⟨rfl, by (simp [Zd, AV.sz, AV.memOK]; first | done | fail)⟩ | fail) : P := g
open NHi3 NZ in
theorem WY (b : List UInt8) (hb : b.length ≤ 1099511627776) (H : Heap) (n : Nat) : Ret prog 133 [bys b] H n (bys (lowB (sumF [b]))) H n := by
 refine Ret.fin ?_
 refine fw func133 ntmps133 results133 ?_
 refine kcu ?_
 refine rk zs [3] fun K V => ?_
 refine ck func127 ((NN [b] osi (fun x hx => by rw [List.mem_singleton.1 hx]; omega) _ _)) ?_
 refine kas ?_
 refine kal ?_
 exact ⟨_, rfl, .kl (Z0 (lowB (sumF [b])) n)⟩
theorem Nb : ∀ (l : List UInt8) (v : Nat), l.foldl (fun v c => 256 * v + c.toNat) v < (v + 1) * 256 ^ l.length
 | [], v => osi
 | c :: l, v => by
   have ih := Nb l (256 * v + c.toNat)
   have := c.toNat_lt
   rw [List.foldl_cons, List.length_cons, Nat.pow_succ, Nat.mul_comm (256 ^ l.length), ← Nat.mul_assoc]
   exact Nat.lt_of_lt_of_le ih (Nat.mul_le_mul_right _ om)
def numB : Nat → List UInt8 → Nat := fun v l => l.foldl (fun v c => 256 * v + c.toNat) v
theorem NHi4.eqs {P Q : Prop} (g : Imp P Q := by (try simp only [go_sem, seval, List.length_map]); exact Pm) : Imp P Q := g
open NHi4 NY in
theorem c_ref1_number (b : List UInt8) (hb : b.length ≤ 1099511627776) (p m : Nat) (hm : m ≤ 7) (h : p + m ≤ b.length) (H : Heap) (n : Nat) : Ret prog 134 [bys b, .int .i64 p, .int .i64 m] H n (.int .u64 (numB 0 ((b.drop p).take m))) H n := by
 refine fw func134 ntmps134 results134 ?_
 refine rg zs [0, 1, 2] ?_
 refine rg zs [0, 1, 2, 7] ?_
 refine Za fun K1 hK1 => ?_
 refine rg zs [0, 1, 2, 7, 8] ?_
 refine kbM ?_
 refine Zp (fun T' H' n' => ∃ i : Nat, i ≤ m ∧ T' = tl [(0, bys b), (1, .int .i64 p), (2, .int .i64 m), (7, .int .u64 (numB 0 ((b.drop p).take i))), (8, .int .i64 i)] ∧ H = H' ∧ n = n') (fun T' _ _ => m - iv (T' 8)) ?_ ?_
 ·exact ⟨0, Nat.zero_le _, rfl, rfl, rfl⟩
 rintro T1 H1 n1 ⟨i, hi, rfl, rfl, rfl⟩
 refine Za fun K2 hK2 => ?_
 refine rg zs [0, 1, 2, 7, 8, 11] ?_
 refine Zb ?_ ?_ <;> intro hb
 ·have hlt : i < m := ott
  have hN : numB 0 ((b.drop p).take i) < 72057594037927936 := by
    have h1 := Nb ((b.drop p).take i) 0
    have h2 : 256 ^ ((b.drop p).take i).length ≤ 256 ^ 7 := Nat.pow_le_pow_right om (by rw [List.length_take]; omega)
    unfold numB; omega
  have hnx : numB 0 ((b.drop p).take (i + 1)) = 256 * numB 0 ((b.drop p).take i) + (b.getD (p + i) 0).toNat := by
    unfold numB
    rw [List.take_succ_eq_append_getElem (by rw [List.length_drop]; omega), List.foldl_append]
    simp [List.getD, show p + i < b.length by omega]
  have hcl := (b.getD (p + i) 0).toNat_lt
  have e1 : IntKind.i64.wrap ((p : Int) + (i : Int)) = ((p + i : Nat) : Int) := by rw [w64 om om]; omega
  have hnth : nth (b.map Zd) (p + i) = Zd (b.getD (p + i) 0) := Zx Zd b _ om
  generalize hv : numB 0 ((b.drop p).take i) = v at hN hnx
  have e2 : IntKind.u64.wrap (256 * (v : Int)) = ((256 * v : Nat) : Int) := by rw [IntKind.wrap_u64]; omega
  have e3 : IntKind.u64.wrap ((b.getD (p + i) 0).toNat : Int) = ((b.getD (p + i) 0).toNat : Int) := by rw [IntKind.wrap_u64]; omega
  have e4 : IntKind.u64.wrap (((256 * v : Nat) : Int) + ((b.getD (p + i) 0).toNat : Int)) = ((numB 0 ((b.drop p).take (i + 1)) : Nat) : Int) := by rw [IntKind.wrap_u64, hnx]; omega
  refine kaQ ?_
  refine bk fun K3 hK3 => ?_
  refine ZG zs [0, 1, 2, 7, 8] fun K V => ?_
  try simp only [go_sem, seval, List.length_map, e1, e2, e3, e4, hnth, Int.toNat_natCast]
  repeat (first | (refine And.intro ?_ ?_; · first | exact ⟨om, om⟩) | refine peel ?_)
  refine kas ?_
  refine ns ?_
  apply hK3
  refine rg1 zs [0, 1, 2, 7, 8] ?_
  exact ⟨⟨i + 1, om, by rw [w1 om]⟩, by rw [w1 om]; simp; omega⟩
 have hge : i = m := otf
 refine ax ?_
 apply hK1
 refine rg zs [6] ?_
 refine ar ?_
 rw [hge]
def U3 (v : Nat) : Nat → List UInt8
 | 0 => []
 | i + 1 => Z4 ((v / 256 ^ i : Nat) : Int) :: U3 v i
theorem YB (v : Nat) : ∀ i, (U3 v i).length = i
 | 0 => rfl
 | i + 1 => by rw [U3, List.length_cons, YB v i]
theorem eight_step {x : Nat} (hx : x < 18446744073709551616) : AV.int .u8 (IntKind.u8.wrap ((x : Int).tmod 256)) = Zd (Z4 (x : Int)) ∧ IntKind.u64.wrap ((x : Int).tdiv 256) = ((x / 256 : Nat) : Int) := by
 refine ⟨?_, ?_⟩
 ·rw [← Xv, Int.tmod_eq_emod_of_nonneg om]; congr 1; rw [IntKind.wrap_u8, IntKind.wrap_u8]; omega
 ·rw [Int.tdiv_eq_ediv_of_nonneg om, IntKind.wrap_u64]; omega
theorem NHi5.eqs {P Q : Prop} (g : Imp P Q := by (try simp only [go_sem, seval, List.length_map, hA, q1, hw, YB]); exact Pm) : Imp P Q := g
open NHi5 NY in
theorem c_ref1_eight (v : Nat) (hv : v < 18446744073709551616) (H : Heap) (n : Nat) : Ret prog 146 [.int .u64 v] H n (bys (U3 v 8)) H n := by
 have hA := hv
 have q1 := hv
 have hw := hv
 refine Ret.fin ?_
 refine fw func146 ntmps146 results146 ?_
 refine kcu ?_
 refine rg zs [0, 3] ?_
 refine Za fun K1 hK1 => ?_
 refine rg zs [0, 3, 4] ?_
 refine kbM ?_
 refine Z8 3 1 rfl ?_
 refine Yp [0, 3, 4] ?_
 simp only [go_sem, seval]
 refine Zp (fun T' H' n' => ∃ i k ver : Nat, i ≤ 8 ∧ T' = tl [(0, .int .u64 (v / 256 ^ i : Nat)), (3, .osl k ver 0 i), (4, .int .i64 i)] ∧ H' k = some (.arr ver 1 ((U3 v i).map Zd)) ∧ n ≤ k ∧ k < n' ∧ (∀ k, k < n → H' k = H k)) (fun T' _ _ => 8 - iv (T' 4)) ?_ ?_
 ·exact ⟨0, n, 0, om, osi, Pk _ _ _, Nat.le_refl _, om, fun k hk => Pi _ _ om⟩
 rintro T1 H1 n1 ⟨i, k, ver, hi, rfl, hA, hk1, hk2, hlow⟩
 refine Za fun K2 hK2 => ?_
 refine rg zs [0, 3, 4, 6] ?_
 refine Zb ?_ ?_ <;> intro hb
 ·have hi8 : i < 8 := ott
  have hx : v / 256 ^ i < 18446744073709551616 := Nat.lt_of_le_of_lt (Nat.div_le_self _ _) hv
  obtain ⟨hb1, hw⟩ := eight_step hx
  rw [Nat.div_div_eq_div_mul, ← Nat.pow_succ] at hw
  have q1 : (k = n1) = False := oz
  have e1 : List.take i ((U3 v i).map Zd) = (U3 v i).map Zd := List.take_of_length_le (by simp [YB])
  refine kaQ ?_
  refine bk fun K3 hK3 => ?_
  refine Zf zo [0, 3, 4] fun K V => ?_
  try simp only [go_sem, seval, List.length_map, hA, q1, hw, YB, hb1, e1]
  repeat (first | (refine And.intro ?_ ?_; · first | exact ⟨rfl, by simp [Zd, AV.sz, AV.memOK]⟩ | exact ⟨om, .inr trivial, om, om⟩) | refine peel ?_)
  refine kas ?_
  refine ZG zs [0, 3, 4] fun K V => ?_
  try simp only [go_sem, seval, List.length_map, hA, q1, hw, YB, hw]
  refine kad ?_
  refine ns ?_
  apply hK3
  refine rg1 zs [0, 3, 4] ?_
  exact ⟨⟨i + 1, n1, 1, om, by rw [w1 om, Nat.add_comm 1 i], by rw [if_pos rfl]; rfl, om, om, fun k hk => by rw [if_neg om]; exact hlow k hk⟩, by rw [w1 om]; simp; omega⟩
 obtain rfl : i = 8 := otf
 refine ax ?_
 apply hK1
 refine kal ?_
 exact ⟨_, rfl, hlow, .osl hA hk1 (by simp [YB]) (by rw [List.drop_zero, List.take_of_length_le (by simp [YB])]; exact XR _ (JK _ n))⟩
theorem NHi6.eqs {P Q : Prop} (g : Imp P Q := by (try simp only [go_sem, seval, List.length_map]); exact Pm) : Imp P Q := g
set_option maxHeartbeats 1600000 in
open NHi6 NY in
theorem Qg (b : List UInt8) (p : Nat) (hb : b.length ≤ 1099511627776) (hp : p ≤ 1099511627776) (H : Heap) (n : Nat) : Ret prog 98 [bys b, .int .i64 p] H n (ruAV (ruB b p)) H n := by
 refine fw func98 ntmps98 results98 ?_
 refine kb1 ?_
 refine Za fun K1 hK1 => ?_
 refine rc zs [0, 1, 13] func132 ((VQ b p _ _)) ?_
 refine Zb ?_ ?_ <;> intro hb
 ·have h1 : b.length < p := by have h9 := hb; simp at h9; omega
  have hres : ruB b p = (0, 0, 1) := by unfold ruB; rw [if_pos h1]
  exact kaS
 have h1 : ¬ b.length < p := by have h9 := hb; simp at h9; omega
 have hru : ruB b p = ruL b p 10 0 := by unfold ruB; rw [if_neg h1]
 refine kay ?_
 refine rg zs [0, 1, 7] ?_
 refine rg zs [0, 1, 7, 8] ?_
 refine Za fun K2 hK2 => ?_
 refine rg zs [0, 1, 7, 8, 9] ?_
 refine kbM ?_
 refine Zp (fun T' H' n' => ∃ f v : Nat, f ≤ 9 ∧ v < 2 ^ (7 * (9 - f)) ∧ T' = tl [(0, bys b), (1, .int .i64 p), (7, .int .u64 v), (8, .int .u64 (2 ^ (7 * (9 - f)) : Nat)), (9, .int .i64 (9 - f : Nat))] ∧ H' = H ∧ n' = n ∧ ruL b p (f + 1) v = ruB b p) (fun T' _ _ => 9 - iv (T' 9)) ?_ ?_
 ·exact ⟨9, 0, om, osi, rfl, rfl, rfl, hru.symm⟩
 rintro T1 H1 n1 ⟨f, v, hf, hv, rfl, rfl, rfl, hix⟩
 refine Za fun K3 hK3 => ?_
 have e1 : IntKind.i64.wrap ((p : Int) + ((9 - f : Nat) : Int)) = ((p + (9 - f) : Nat) : Int) := by rw [w64 om om]; omega
 unfold ruL at hix
 refine rg zs [0, 1, 7, 8, 9, 15] ?_
 refine Zb ?_ ?_ <;> intro hb
 ·refine kba ?_
  refine bk fun K4 hK4 => ?_
  refine Za fun K5 hK5 => ?_
  refine Zf zs [0, 1, 7, 8, 9, 23] fun K V => ?_
  try simp only [go_sem, seval, List.length_map, e1]
  refine kad ?_
  refine Zb ?_ ?_ <;> intro hb
  ·have hlt : b.length ≤ p + (9 - f) := ott
   have hres : ruB b p = (0, 0, 10) := by rw [← hix, if_pos hlt]
   exact kaS
  have hlt : ¬ b.length ≤ p + (9 - f) := otf
  rw [if_neg hlt] at hix
  have hnth : nth (b.map Zd) (p + (9 - f)) = Zd (b.getD (p + (9 - f)) 0) := Zx Zd b _ om
  generalize b.getD (p + (9 - f)) 0 = c at *
  have hcl := c.toNat_lt
  have ec : IntKind.u64.wrap (c.toNat : Int) = (c.toNat : Int) := by rw [IntKind.wrap_u64]; omega
  refine ak ?_
  apply hK5
  refine Zf zs [0, 1, 7, 8, 9, 10] fun K V => ?_
  try simp only [go_sem, seval, List.length_map, e1, hnth, Int.toNat_natCast, Zd, ec]
  repeat (first | (refine And.intro ?_ ?_; · first | exact ⟨om, om⟩) | refine peel ?_)
  refine kas ?_
  refine Za fun K6 hK6 => ?_
  refine rg zs [0, 1, 7, 8, 9, 10, 36] ?_
  refine Zb ?_ ?_ <;> intro hb
  ·have h3 : (9 - f = 9) ∧ 1 < c.toNat := by have h9 := Wt hb; exact ⟨by have := h9.1; simp at this; omega, by have := of_decide_eq_true h9.2; omega⟩
   have hres : ruB b p = (0, 0, 13) := by rw [← hix, if_pos h3]
   exact kaS
  have h3 : ¬ ((9 - f = 9) ∧ 1 < c.toNat) := by rintro ⟨h4, h5⟩; rw [h4, decide_eq_true (by omega : (1 : Int) < (c.toNat : Int))] at hb; cases hb
  rw [if_neg h3] at hix
  refine ak ?_
  apply hK6
  have hm : c.toNat % 128 * 2 ^ (7 * (9 - f)) ≤ 127 * 2 ^ 56 ∨ c.toNat % 128 * 2 ^ (7 * (9 - f)) ≤ 1 * 2 ^ 63 := by
    exact kbL
  have hv2 : v < 9223372036854775808 := Nat.lt_of_lt_of_le hv (Nat.pow_le_pow_right om (show 7 * (9 - f) ≤ 63 by omega))
  obtain ⟨m, hmd⟩ : ∃ m, m = c.toNat % 128 * 2 ^ (7 * (9 - f)) := ⟨_, rfl⟩
  rw [← hmd] at hix hm
  have em : IntKind.u64.wrap (((2 ^ (7 * (9 - f)) : Nat) : Int) * ((c.toNat : Int).tmod 128)) = (m : Int) := by
    rw [Int.tmod_eq_emod_of_nonneg om, show ((c.toNat : Int) % 128) = ((c.toNat % 128 : Nat) : Int) by omega, ← Int.natCast_mul, Nat.mul_comm, ← hmd, IntKind.wrap_u64]; omega
  have ev : IntKind.u64.wrap ((v : Int) + (m : Int)) = ((v + m : Nat) : Int) := by rw [IntKind.wrap_u64]; omega
  refine Zf zs [0, 1, 7, 8, 9, 10] fun K V => ?_
  try simp only [go_sem, seval, List.length_map, em, ev]
  refine kad ?_
  refine rg zs [0, 1, 7, 8, 9, 10] ?_
  refine rg zs [0, 1, 7, 8, 9, 10, 46] ?_
  refine Zb ?_ ?_ <;> intro hb
  ·have h4 : c.toNat < 128 := ott
   rw [if_pos h4] at hix
   refine Za fun K7 hK7 => ?_
   refine rg zs [1, 7, 9, 52] ?_
   refine Zb ?_ ?_ <;> intro hb
   ·have h5 : c.toNat = 0 ∧ 0 < 9 - f := by have h9 := Wt hb; exact ⟨by have := h9.1; simp at this; omega, by have := of_decide_eq_true h9.2; omega⟩
    have hres : ruB b p = (0, 0, 11) := by rw [← hix, if_pos h5]
    exact kaS
   have h5 : ¬ (c.toNat = 0 ∧ 0 < 9 - f) := by rintro ⟨h6, h7⟩; rw [h6, decide_eq_true (by omega : (0 : Int) < ((9 - f : Nat) : Int))] at hb; cases hb
   rw [if_neg h5] at hix
   have e6 : IntKind.i64.wrap (((p + (9 - f) : Nat) : Int) + 1) = ((p + (9 - f) + 1 : Nat) : Int) := by rw [w64 om om]; omega
   refine ak ?_
   apply hK7
   refine Zf zs [4, 5, 6] fun K V => ?_
   try simp only [go_sem, seval, List.length_map, e1, e6]
   refine kad ?_
   refine ar ?_
   rw [← hix]; rfl
  have h4 : ¬ c.toNat < 128 := otf
  rw [if_neg h4] at hix
  have hf0 : 0 < f := Nat.pos_of_ne_zero fun h0 => h3 ⟨om, om⟩
  obtain ⟨g, rfl⟩ : ∃ g, f = g + 1 := ⟨f - 1, om⟩
  have e8 : 9 - (g + 1) = 8 - g := om
  rw [e8] at hv hmd
  have e7 : IntKind.i64.wrap (((8 - g : Nat) : Int) + 1) = ((9 - g : Nat) : Int) := by rw [w64 om om]; omega
  have h6 : 7 * (9 - g) = 7 * (8 - g) + 7 := om
  have e9 : IntKind.u64.wrap (((2 ^ (7 * (8 - g)) : Nat) : Int) * 128) = ((2 ^ (7 * (9 - g)) : Nat) : Int) := by
    have h8 : 2 ^ (7 * (9 - g)) ≤ 2 ^ 63 := Nat.pow_le_pow_right om om
    have h9 : 2 ^ (7 * (9 - g)) = 2 ^ (7 * (8 - g)) * 128 := by rw [h6, Nat.pow_add]
    generalize 2 ^ (7 * (9 - g)) = z at h8 h9 ⊢
    generalize 2 ^ (7 * (8 - g)) = y at h9 ⊢
    rw [IntKind.wrap_u64]; omega
  refine kb3 ?_
  refine ZG zs [0, 1, 7, 8, 9] fun K V => ?_
  try simp only [go_sem, seval, List.length_map, e7, e8]
  refine kad ?_
  refine ns ?_
  rw [e9]
  refine ⟨⟨g, v + m, om, ?_, rfl, hix⟩, by simp [iv]; omega⟩
  rw [h6, Nat.pow_add, hmd]
  exact kcv
 exact absurd (of_decide_eq_false hb) om
theorem NHi7.eqs {P Q : Prop} (g : Imp P Q := by (try simp only [go_sem, seval, List.length_map, ruAV, ZZ, hum, List.length_drop, List.length_take]); exact Pm) : Imp P Q := g
set_option maxHeartbeats 1600000 in
open NHi7 NY in
theorem Lj (b : List UInt8) (p most : Nat) (hb9 : b.length ≤ 1099511627776) (hp : p ≤ 1099511627776) (hm : most ≤ 1099511627776) (H : Heap) (n : Nat) : Ret prog 99 [bys b, .int .i64 p, .int .i64 most] H n (rbAV (rbB b p most)) H n := by
 obtain ⟨hu1, hu2, hu3⟩ := ruB_lt b p
 have hum : u64 (most : Int) = most := X8 _ om
 refine Ret.fin ?_
 refine fw func99 ntmps99 results99 ?_
 refine rg zs [0, 1, 2] ?_
 refine Za fun K1 hK1 => ?_
 refine rc zs [0, 1, 2, 18] func132 ((VQ b p _ _)) ?_
 refine Zb ?_ ?_ <;> intro hb
 ·have h1 : b.length < p := by have h0 : ¬ ((most : Int) < 0) := om; simp [h0] at hb; omega
  have hres : rbB b p most = ([], 0, 1) := by unfold rbB; rw [if_pos h1]
  exact kax
 have h1 : ¬ b.length < p := by have h0 : ¬ ((most : Int) < 0) := om; simp [h0] at hb; omega
 refine kay ?_
 refine rc zs [0, 2, 9, 10, 11] func98 ((Qg b p hb9 hp _ _)) ?_
 refine Za fun K2 hK2 => ?_
 refine rg zs [0, 2, 9, 10, 11, 27] ?_
 refine Zb ?_ ?_ <;> intro hb
 ·have h2 : (ruB b p).2.2 ≠ 0 := osb
  have hres : rbB b p most = ([], 0, (ruB b p).2.2) := by unfold rbB; rw [if_neg h1, if_pos h2]
  exact kax
 have h2 : (ruB b p).2.2 = 0 := osb
 have hu4 := hu2 h2
 refine kaQ ?_
 refine Za fun K3 hK3 => ?_
 refine rg zs [0, 9, 10, 32] ?_
 refine Zb ?_ ?_ <;> intro hb
 ·have h3 : most < (ruB b p).1 := ott
  have hres : rbB b p most = ([], 0, 13) := by unfold rbB; rw [if_neg h1, if_neg (by simp [h2]), if_pos h3]
  exact kax
 have h3 : ¬ most < (ruB b p).1 := otf
 refine kba ?_
 refine Za fun K4 hK4 => ?_
 have e1 : IntKind.i64.wrap ((b.length : Int) - ((ruB b p).2.1 : Int)) = ((b.length - (ruB b p).2.1 : Nat) : Int) := by rw [w64 om om]; omega
 have e2 : u64 ((b.length - (ruB b p).2.1 : Nat) : Int) = b.length - (ruB b p).2.1 := X8 _ om
 refine Zf zs [0, 9, 10, 39] fun K V => ?_
 try simp only [go_sem, seval, List.length_map, ruAV, ZZ, hum, List.length_drop, List.length_take, e1, e2]
 refine kad ?_
 refine Zb ?_ ?_ <;> intro hb
 ·have h4 : b.length - (ruB b p).2.1 < (ruB b p).1 := ott
  have hres : rbB b p most = ([], 0, 10) := by unfold rbB; rw [if_neg h1, if_neg (by simp [h2]), if_neg h3, if_pos h4]
  exact kax
 have h4 : ¬ b.length - (ruB b p).2.1 < (ruB b p).1 := otf
 have hres : rbB b p most = ((b.drop (ruB b p).2.1).take (ruB b p).1, (ruB b p).2.1 + (ruB b p).1, 0) := by unfold rbB; rw [if_neg h1, if_neg (by simp [h2]), if_neg h3, if_neg h4]
 have e3 : IntKind.i64.wrap ((ruB b p).1 : Int) = ((ruB b p).1 : Int) := w64 om om
 have e4 : IntKind.i64.wrap (((ruB b p).2.1 : Int) + ((ruB b p).1 : Int)) = (((ruB b p).2.1 + (ruB b p).1 : Nat) : Int) := by rw [w64 om om]; omega
 have e5 : (b.take ((ruB b p).2.1 + (ruB b p).1)).drop (ruB b p).2.1 = (b.drop (ruB b p).2.1).take (ruB b p).1 := by rw [List.take_add, List.drop_append_of_le_length oz, List.drop_take_self, List.nil_append]
 refine kb3 ?_
 refine Zf zs [6, 7, 8] fun K V => ?_
 refine kb8 ?_
 repeat refine peel ?_
 refine Zo func58 rfl rfl rfl ((e5 ▸ QN b hb9 (ruB b p).2.1 ((ruB b p).2.1 + (ruB b p).1) om om _ _)) ?_
 refine kb8 ?_
 refine kad ?_
 refine ar ?_
 refine ⟨_, rfl, ?_⟩
 rw [hres]
 exact .kl ⟨WM _ _, trivial, trivial, trivial⟩
end Go.Proofs.YtkmkbndcekklmaaGreatDoor