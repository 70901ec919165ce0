/- Own layer: the walk through the document's terms and conditions. Of the program; no condition. -/
import Derived.Test.YtkmkbndcekklmaaGreatDoorPH
import Derived.Test.YtkmkbndcekklmaaGreatDoorPF
import Derived.Test.YtkmkbndcekklmaaGreatDoorPG
import Derived.Test.YtkmkbndcekklmaaGreatDoorPD
import Derived.Test.YtkmkbndcekklmaaGreatDoorPE
set_option linter.unusedSimpArgs false
set_option linter.unusedVariables false
set_option maxRecDepth 10000
namespace Go.Proofs.YtkmkbndcekklmaaGreatDoor
open Go Go.Sx Go.Rt Go.Proofs Tryz
def FactC (fs : List Fml) (t : List UInt8) (kr f : Nat) : Prop := ∀ (s : Ro) (H : Heap) (n : Nat), RI t s → 4 * s.m t + 1 ≤ f → kr < n → H kr = some (s.obj fs t) → Ret prog 151 [.loc kr 0 0 0 []] H n (Zz fs t f s).1.av (H.put kr (some ((Zz fs t f s).2.obj fs t))) n
def TermC (fs : List Fml) (t : List UInt8) (kr f : Nat) : Prop := ∀ (s : Ro) (H : Heap) (n : Nat), RI t s → 4 * s.m t + 2 ≤ f → kr < n → H kr = some (s.obj fs t) → Ret prog 139 [.loc kr 0 0 0 []] H n (ZN fs t f s).1.av (H.put kr (some ((ZN fs t f s).2.obj fs t))) n
def CondC (fs : List Fml) (t : List UInt8) (kr f : Nat) : Prop := ∀ (s : Ro) (H : Heap) (n : Nat), RI t s → 4 * s.m t + 3 ≤ f → kr < n → H kr = some (s.obj fs t) → Ret prog 107 [.loc kr 0 0 0 []] H n (ZR fs t f s).1.av (H.put kr (some ((ZR fs t f s).2.obj fs t))) n
theorem Xa (c : CR) : c.av.sz = 5 := by cases c; rfl
theorem Y3 (c : CR) : c.av.isAgg = true := by cases c; rfl
theorem YG (c : CR) : c.av.memOK = true := by cases c; rfl
theorem Yn (g : Bool) (c : CR) : strip g c.av = c.av := by cases c; cases g <;> rfl
mutual
theorem KO (n : Nat) : ∀ c : CR, c.av.kl n
 | .nd k l s t m => ⟨trivial, LJ n l, trivial, trivial, trivial, trivial⟩
theorem LJ (n : Nat) : ∀ l : List CR, MN n (MU l)
 | [] => trivial
 | c :: l => ⟨KO n c, LJ n l⟩
end
theorem avs_snoc (l : List CR) (c : CR) : MU (l ++ [c]) = MU l ++ [c.av] := by rw [MQ, MQ, List.map_append]; rfl
theorem avs_len (l : List CR) : (MU l).length = l.length := by rw [MQ, List.length_map]
theorem avs_take (l : List CR) : (MU l).take l.length = MU l := List.take_of_length_le (by rw [avs_len]; omega)
theorem frzL_kls {H : Heap} {n : Nat} : ∀ l : List AV, MN n l → FrzL H n l l
 | [], _ => .nil
 | _ :: l, h => .cons (.kl h.1) (frzL_kls l h.2)
theorem frz_ndl {H : Heap} {n k ver e : Nat} {l : List CR} (w s t : List UInt8) (m : Int) (hk : H k = some (.arr ver e (MU l))) (hn : n ≤ k) (he : e = 5) : Frz H n (.agg [.str w, .osl k ver 0 l.length, .str s, .str t, .int .i64 m]) (CR.nd w l s t m).av := by
 subst he
 refine .agg (.cons (.kl trivial) (.cons ?_ (.cons (.kl trivial) (.cons (.kl trivial) (.cons (.kl trivial) .nil)))))
 refine .osl hk hn (by rw [avs_len]; omega) ?_
 rw [List.drop_zero, avs_take]
 exact frzL_kls _ (LJ n l)
theorem NHc0.eqs {P Q : Prop} (g : Imp P Q := by (try simp only [go_sem, seval, hszs, hags, hmos, hss, g1, g2, g3, g4, g5, g6, f1, f2, f3, f4, f5, f6, hA, hB, hC, hR1, q1, q2, q3, q4, q5, q6, q7, hall, rwAV, Ro.obj, Ro.av, roAV, Xa, Y3, YG, Yn, avs_len, avs_take]); exact MI) : Imp P Q := g
theorem NHc0.sd {P : Prop} (g : P := by first | exact ⟨rfl, by (simp [Xa, YG]; first | done | fail)⟩ | exact ⟨om, .inr trivial, om, om⟩ | fail) : P := g
set_option maxHeartbeats 3200000 in
open NHc0 NZ in
theorem c_ref13_term {fs : List Fml} {t : List UInt8} (ht : t.length ≤ 512) {kr : Nat} : ∀ {f : Nat}, (∀ g, g < f → FactC fs t kr g) → TermC fs t kr f := fun {f} hF s H n hI hm hk hR => by
 obtain ⟨f, rfl⟩ : ∃ q, f = q + 1 := ⟨f - 1, om⟩
 have hszs : (Zg fs).sz = 1 := rfl
 have hags : (Zg fs).isAgg = true := rfl
 have hmos : (Zg fs).memOK = true := rfl
 have hss : ∀ g, strip g (Zg fs) = Zg fs := fun g => by cases g <;> rfl
 have g1 : (kr = n) = False := oz
 have g2 : (kr = n + 1) = False := oz
 have g3 : (kr = n + 2) = False := oz
 have g4 : (n = kr) = False := oz
 have g5 : (n + 1 = kr) = False := oz
 have g6 : (n + 2 = kr) = False := oz
 have f1 : (n = n + 1) = False := osi
 have f2 : (n + 1 = n) = False := osi
 have f3 : (n + 2 = n) = False := osi
 have f4 : (n + 2 = n + 1) = False := osi
 have f5 : (n + 1 = n + 2) = False := osi
 have f6 : (n = n + 2) = False := osi
 have hA := hk
 have hB := hk
 have hC := hk
 have hR1 := hk
 have q1 := hk
 have q2 := hk
 have q3 := hk
 have q4 := hk
 have q5 := hk
 have q6 := hk
 have q7 := hk
 have hall := hk
 have hms : s.m t ≤ 513 := by unfold Ro.m; split; (split <;> omega); omega
 obtain ⟨r, hr⟩ : ∃ r, r = Z8 fs t (f + 1) [] s := ⟨_, rfl⟩
 have hv : ZN fs t (f + 1) s = (.nd wAnd r.1 [] [] 0, r.2) := by rw [hr]; unfold ZN; rfl
 rw [hv]
 refine Ro.fin hk ?_
 refine fw func139 ntmps139 results139 ?_
 refine rg zs [0, 2] ?_
 refine rg zs [0, 2, 3] ?_
 refine Zb fun K1 hK1 => ?_
 refine rg zs [0, 2, 3, 4] ?_
 refine kbM ?_
 refine Yu (n + 1) 5 (ver := 0) (e := 5) (els := [.agg [.str wAnd, .nilsl, .str [], .str [], .int .i64 0]]) (els' := [.agg [.str wAnd, .osl (n + 2) 0 0 0, .str [], .str [], .int .i64 0]]) (by simp [Heap.put, wAnd]) ⟨Adp.agg ⟨.refl _ _, Adp.nilsl _, .refl _ _, .refl _ _, .refl _ _, trivial⟩, trivial⟩ ?_
 refine Zo (fun T' H' n' => ∃ (g : Nat) (l : List CR) (s1 : Ro) (ver j : Nat) (more : Bool), (if more then Z8 fs t g l s1 = r ∧ 4 * s1.m t + 2 + 0 ≤ g ∧ g ≤ f + 1 ∧ RI t s1 ∧ j + s1.m t ≤ s.m t else (l, s1) = r) ∧ s1.p ≤ t.length ∧ j ≤ s.m t + 1 ∧ l.length = j ∧ T' = tl [(0, .loc kr 0 0 0 []), (2, .loc n 0 0 0 []), (3, .loc (n + 1) 0 0 0 []), (4, .bool more)] ∧ H' (n + 1) = some (.arr 0 5 [.agg [.str wAnd, .osl (n + 2) ver 0 l.length, .str [], .str [], .int .i64 0]]) ∧ H' (n + 2) = some (.arr ver 5 (MU l)) ∧ H' n = some (.arr 0 5 [.agg [.str [], .nilsl, .str [], .str [], .int .i64 0]]) ∧ H' kr = some (s1.obj fs t) ∧ (∀ k, k < n → k ≠ kr → H' k = H k) ∧ n' = n + 3 + j) (fun _ _ n' => s.m t + 5 + n - n') ?_ ?_
 ·exact ⟨f + 1, [], s, 0, 0, true, by rw [if_pos rfl]; exact ⟨hr.symm, om, Nat.le_refl _, hI, om⟩, hI.p, om, rfl, rfl, by simp [Heap.put, wAnd], by simp [Heap.put, MU], by simp [Heap.put], ohx hR, fun k h1 h2 => oh, om⟩
 rintro T1 H1 n1 ⟨g, l, s1, ver, j, more, hinv, hp1, hj, hlj, rfl, hA, hB, hC, hR2, hlow, rfl⟩
 have hR1 := hR2
 unfold Ro.obj Ro.av roAV rwAV at hR1
 refine Zb fun K2 hK2 => ?_
 refine rg zs [0, 2, 3, 14] ?_
 refine Za ?_ ?_ <;> intro hb
 ·have hmm := Uw hb
  obtain rfl : more = true := hmm.1
  have hbad : s1.bad < 0 := of_decide_eq_true hmm.2
  rw [if_pos rfl] at hinv
  obtain ⟨hrr, hg1, hg2, hRI, hjm⟩ := hinv
  obtain ⟨g, rfl⟩ : ∃ q, g = q + 1 := ⟨g - 1, om⟩
  rw [Z8, if_pos hbad] at hrr
  have hgo := (Vf (fs := fs) ht g).2.2.2.2 s1 hp1
  have hRI2 := hgo.ri hRI hbad
  obtain ⟨y, hy⟩ : ∃ y, y = Zz fs t g s1 := ⟨_, rfl⟩
  have cF := fun H n a b => hy ▸ hF g om s1 H n hRI om a b
  rw [← hy] at hrr hgo hRI2
  clear hy
  have q1 : (kr = n + 3 + j) = False := oz
  have q2 : (n + 1 = n + 3 + j) = False := oz
  have q3 : (n + 2 = n + 3 + j) = False := oz
  have q4 : (n = n + 3 + j) = False := oz
  have q5 : (n + 3 + j = kr) = False := oz
  have q6 : (n + 3 + j = n + 1) = False := oz
  have q7 : (n + 3 + j = n + 2) = False := oz
  have hks : ∀ {H9 : Heap} {X : Option AObj} {n9 : Nat}, n + 3 + j < n9 → True := fun _ => trivial
  refine kaQ ?_
  refine bk fun K3 hK3 => ?_
  refine rk zs [0, 2, 3, 5] fun K V => ?_
  refine ck func151 ((cF _ _ om hR2)) ?_
  refine kas ?_
  refine rg1 zs [0, 2, 3] ?_
  apply hK3
  refine rk1 zs [0, 2, 3, 4] fun K V => ?_
  refine ck func138 ((Vj fs t y.2 kr ht hgo.p 110 wAnd _ _ om ohr)) ?_
  refine kas ?_
  refine ns ?_
  refine ⟨⟨g, l ++ [y.1], isS t 110 wAnd y.2, ver + 1, j + 1, isB 110 wAnd y.2, ?_, (JW ht hgo.p odc).p, om, oz, rfl, ?_⟩, om⟩
  ·by_cases hi : isB 110 wAnd y.2 = true
   ·exact kbD
   ·rw [if_neg hi] at hrr ⊢; rw [show isS t 110 wAnd y.2 = y.2 by unfold isS; rw [if_neg hi]]; exact hrr
  ·exact kcf
 have hrr : (l, s1) = r := by
   cases more with
   | false => exact hinv
   | true => rw [if_pos rfl] at hinv; rw [← hinv.1, Kc _ _ otf]
 refine ax ?_
 apply hK1
 refine kal ?_
 exact kbW
set_option maxHeartbeats 3200000 in
open NHc0 NZ in
theorem c_ref13_cond {fs : List Fml} {t : List UInt8} (ht : t.length ≤ 512) {kr : Nat} : ∀ {f : Nat}, (∀ g, g < f → TermC fs t kr g) → CondC fs t kr f := fun {f} hF s H n hI hm hk hR => by
 obtain ⟨f, rfl⟩ : ∃ q, f = q + 1 := ⟨f - 1, om⟩
 have hszs : (Zg fs).sz = 1 := rfl
 have hags : (Zg fs).isAgg = true := rfl
 have hmos : (Zg fs).memOK = true := rfl
 have hss : ∀ g, strip g (Zg fs) = Zg fs := fun g => by cases g <;> rfl
 have g1 : (kr = n) = False := oz
 have g2 : (kr = n + 1) = False := oz
 have g3 : (kr = n + 2) = False := oz
 have g4 : (n = kr) = False := oz
 have g5 : (n + 1 = kr) = False := oz
 have g6 : (n + 2 = kr) = False := oz
 have f1 : (n = n + 1) = False := osi
 have f2 : (n + 1 = n) = False := osi
 have f3 : (n + 2 = n) = False := osi
 have f4 : (n + 2 = n + 1) = False := osi
 have f5 : (n + 1 = n + 2) = False := osi
 have f6 : (n = n + 2) = False := osi
 have hA := hk
 have hB := hk
 have hC := hk
 have hR1 := hk
 have q1 := hk
 have q2 := hk
 have q3 := hk
 have q4 := hk
 have q5 := hk
 have q6 := hk
 have q7 := hk
 have hall := hk
 have hms : s.m t ≤ 513 := by unfold Ro.m; split; (split <;> omega); omega
 obtain ⟨r, hr⟩ : ∃ r, r = orsR fs t (f + 1) [] s := ⟨_, rfl⟩
 have hv : ZR fs t (f + 1) s = (.nd wOr r.1 [] [] 0, r.2) := by rw [hr]; unfold ZR; rfl
 rw [hv]
 refine Ro.fin hk ?_
 refine fw func107 ntmps107 results107 ?_
 refine rg zs [0, 2] ?_
 refine rg zs [0, 2, 3] ?_
 refine Zb fun K1 hK1 => ?_
 refine rg zs [0, 2, 3, 4] ?_
 refine kbM ?_
 refine Yu (n + 1) 5 (ver := 0) (e := 5) (els := [.agg [.str wOr, .nilsl, .str [], .str [], .int .i64 0]]) (els' := [.agg [.str wOr, .osl (n + 2) 0 0 0, .str [], .str [], .int .i64 0]]) (by simp [Heap.put, wOr]) ⟨Adp.agg ⟨.refl _ _, Adp.nilsl _, .refl _ _, .refl _ _, .refl _ _, trivial⟩, trivial⟩ ?_
 refine Zo (fun T' H' n' => ∃ (g : Nat) (l : List CR) (s1 : Ro) (ver j : Nat) (more : Bool), (if more then orsR fs t g l s1 = r ∧ 4 * s1.m t + 2 + 1 ≤ g ∧ g ≤ f + 1 ∧ RI t s1 ∧ j + s1.m t ≤ s.m t else (l, s1) = r) ∧ s1.p ≤ t.length ∧ j ≤ s.m t + 1 ∧ l.length = j ∧ T' = tl [(0, .loc kr 0 0 0 []), (2, .loc n 0 0 0 []), (3, .loc (n + 1) 0 0 0 []), (4, .bool more)] ∧ H' (n + 1) = some (.arr 0 5 [.agg [.str wOr, .osl (n + 2) ver 0 l.length, .str [], .str [], .int .i64 0]]) ∧ H' (n + 2) = some (.arr ver 5 (MU l)) ∧ H' n = some (.arr 0 5 [.agg [.str [], .nilsl, .str [], .str [], .int .i64 0]]) ∧ H' kr = some (s1.obj fs t) ∧ (∀ k, k < n → k ≠ kr → H' k = H k) ∧ n' = n + 3 + j) (fun _ _ n' => s.m t + 5 + n - n') ?_ ?_
 ·exact ⟨f + 1, [], s, 0, 0, true, by rw [if_pos rfl]; exact ⟨hr.symm, om, Nat.le_refl _, hI, om⟩, hI.p, om, rfl, rfl, by simp [Heap.put, wOr], by simp [Heap.put, MU], by simp [Heap.put], ohx hR, fun k h1 h2 => oh, om⟩
 rintro T1 H1 n1 ⟨g, l, s1, ver, j, more, hinv, hp1, hj, hlj, rfl, hA, hB, hC, hR2, hlow, rfl⟩
 have hR1 := hR2
 unfold Ro.obj Ro.av roAV rwAV at hR1
 refine Zb fun K2 hK2 => ?_
 refine rg zs [0, 2, 3, 14] ?_
 refine Za ?_ ?_ <;> intro hb
 ·have hmm := Uw hb
  obtain rfl : more = true := hmm.1
  have hbad : s1.bad < 0 := of_decide_eq_true hmm.2
  rw [if_pos rfl] at hinv
  obtain ⟨hrr, hg1, hg2, hRI, hjm⟩ := hinv
  obtain ⟨g, rfl⟩ : ∃ q, g = q + 1 := ⟨g - 1, om⟩
  rw [orsR, if_pos hbad] at hrr
  have hgo := (Vf (fs := fs) ht g).2.2.1 s1 hp1
  have hRI2 := hgo.ri hRI hbad
  obtain ⟨y, hy⟩ : ∃ y, y = ZN fs t g s1 := ⟨_, rfl⟩
  have cF := fun H n a b => hy ▸ hF g om s1 H n hRI om a b
  rw [← hy] at hrr hgo hRI2
  clear hy
  have q1 : (kr = n + 3 + j) = False := oz
  have q2 : (n + 1 = n + 3 + j) = False := oz
  have q3 : (n + 2 = n + 3 + j) = False := oz
  have q4 : (n = n + 3 + j) = False := oz
  have q5 : (n + 3 + j = kr) = False := oz
  have q6 : (n + 3 + j = n + 1) = False := oz
  have q7 : (n + 3 + j = n + 2) = False := oz
  have hks : ∀ {H9 : Heap} {X : Option AObj} {n9 : Nat}, n + 3 + j < n9 → True := fun _ => trivial
  refine kaQ ?_
  refine bk fun K3 hK3 => ?_
  refine rk zs [0, 2, 3, 5] fun K V => ?_
  refine ck func139 ((cF _ _ om hR2)) ?_
  refine kas ?_
  refine rg1 zs [0, 2, 3] ?_
  apply hK3
  refine rk1 zs [0, 2, 3, 4] fun K V => ?_
  refine ck func138 ((Vj fs t y.2 kr ht hgo.p 110 wOr _ _ om ohr)) ?_
  refine kas ?_
  refine ns ?_
  refine ⟨⟨g, l ++ [y.1], isS t 110 wOr y.2, ver + 1, j + 1, isB 110 wOr y.2, ?_, (JW ht hgo.p odc).p, om, oz, rfl, ?_⟩, om⟩
  ·by_cases hi : isB 110 wOr y.2 = true
   ·exact kbD
   ·rw [if_neg hi] at hrr ⊢; rw [show isS t 110 wOr y.2 = y.2 by unfold isS; rw [if_neg hi]]; exact hrr
  ·exact kcf
 have hrr : (l, s1) = r := by
   cases more with
   | false => exact hinv
   | true => rw [if_pos rfl] at hinv; rw [← hinv.1, Q8 _ _ otf]
 refine ax ?_
 apply hK1
 refine kal ?_
 exact kbW
theorem frz_nd1 {H : Heap} {n k ver : Nat} {c : CR} (w s t : List UInt8) (m : Int) (hk : H k = some (.arr ver 5 [c.av])) (hn : n ≤ k) : Frz H n (.agg [.str w, .osl k ver 0 1, .str s, .str t, .int .i64 m]) (CR.nd w [c] s t m).av :=
 frz_ndl (l := [c]) w s t m hk hn rfl
theorem NHd0.eqs {P Q : Prop} (g : Imp P Q := by (try simp only [go_sem, seval, hR1, hszs, hags, hmos, hss, g1, g2, g3, g4, g5, g6, g7, g8, f1, f2, f3, f4, f5, f6, f7, f8, f9, h1, h2, h3, rwAV, Ro.obj, Ro.av, roAV, Xa, Y3, YG, Yn, hN, hG, Bool.false_eq_true, if_false, if_true]); exact MI) : Imp P Q := g
theorem NHd0.inz {P Q : Prop} (g : Imp P Q := by refine Imp.up eqs ?_; (repeat (first | (refine Imp.nd ?_ ?_; · first | exact ⟨rfl, by (simp [Xa, YG]; first | done | fail)⟩) | refine Imp.pl ?_)); exact MI) : Imp P Q := g
set_option maxHeartbeats 3200000 in
open NHd0 in
theorem c_ref13_fact {fs : List Fml} (hfs : fs.length ≤ 1048576) {t : List UInt8} (ht : t.length ≤ 512) {kr : Nat} : ∀ {f : Nat}, (∀ g, g < f → FactC fs t kr g ∧ CondC fs t kr g) → FactC fs t kr f := fun {f} hF s H n hI hm hk hR => by
 obtain ⟨f, rfl⟩ : ∃ q, f = q + 1 := ⟨f - 1, by omega⟩
 have hszs : (Zg fs).sz = 1 := rfl
 have hags : (Zg fs).isAgg = true := rfl
 have hmos : (Zg fs).memOK = true := rfl
 have hss : ∀ g, strip g (Zg fs) = Zg fs := fun g => by cases g <;> rfl
 have g1 : (kr = n) = False := by simp; omega
 have g2 : (kr = n + 1) = False := by simp; omega
 have g3 : (kr = n + 2) = False := by simp; omega
 have g4 : (n = kr) = False := by simp; omega
 have g5 : (n + 1 = kr) = False := by simp; omega
 have g6 : (n + 2 = kr) = False := by simp; omega
 have g7 : (n + 3 = kr) = False := by simp; omega
 have g8 : (kr = n + 3) = False := by simp; omega
 have f1 : (n = n + 1) = False := by simp
 have f2 : (n + 1 = n) = False := by simp
 have f3 : (n + 2 = n) = False := by simp
 have f4 : (n + 2 = n + 1) = False := by simp
 have f5 : (n + 1 = n + 2) = False := by simp
 have f6 : (n = n + 2) = False := by simp
 have f7 : (n = n + 3) = False := by simp
 have f8 : (n + 1 = n + 3) = False := by simp
 have f9 : (n + 2 = n + 3) = False := by simp
 have h1 : (n + 3 = n) = False := by simp
 have h2 : (n + 3 = n + 1) = False := by simp
 have h3 : (n + 3 = n + 2) = False := by simp
 have hR1 := hR
 unfold Ro.obj Ro.av roAV rwAV at hR1
 have hp := hI.p
 have p1 := Uj (s := s) ht hp
 have ho1 := YF t s
 have hms : s.m t ≤ 513 := by unfold Ro.m; split; (split <;> omega); omega
 have m1 : s.bad < 0 → s.w.kind ≠ 101 → (Ze t s).m t + 1 ≤ s.m t := fun a b => nextR_m ht hp a b
 obtain ⟨s1, hs1⟩ : ∃ x, x = Ze t s := ⟨_, rfl⟩
 obtain ⟨r, hr⟩ : ∃ r, r = Zz fs t (f + 1) s := ⟨_, rfl⟩
 rw [← hr]
 rw [Zz, ← hs1] at hr
 rw [← hs1] at p1 m1 ho1
 have c1 := fun k w H n a b => Vj fs t s kr ht hp k w H n a b
 unfold isS at c1
 rw [← hs1] at c1
 clear hs1
 have hN := hk
 have hG := hk
 refine Ro.fin hk ?_
 refine fw func151 ntmps151 results151 ?_
 refine rg zs [0, 2] ?_
 refine rg zs [0, 2, 3] ?_
 refine rk zs [0, 2, 3, 4] fun K V => ?_
 refine ck func138 ((c1 110 wNot _ _ (by omega) (by (try simp only [MG]); (repeat rw [if_neg (by omega)]); exact hR))) ?_
 apply V; clear V K
 rcases (show (isB 110 wNot s = false ∧ isB 103 [40] s = false) ∨ (isB 110 wNot s = false ∧ isB 103 [40] s = true) ∨ isB 110 wNot s = true by cases isB 110 wNot s <;> cases isB 103 [40] s <;> simp) with ⟨hN, hG⟩ | ⟨hN, hG⟩ | hN
 ·rw [if_neg (by rw [hN]; simp), if_neg (by rw [hG]; simp)] at hr
  refine rk zs [0, 2, 3, 4, 5] fun K V => ?_
  refine ⟨fun _ => ?_, fun hg => absurd hg (by simp)⟩; refine Zt func138 rfl rfl rfl (c1 103 [40] _ _ (by omega) (by (try simp only [MG]); (repeat first | rw [if_pos rfl] | rw [if_neg (by omega)]); rfl)) ?_
  refine nz ?_
  apply V; clear V K
  refine Zb fun K1 hK1 => ?_
  refine rg zs [0, 2, 3, 4, 26] ?_
  refine Za ?_ ?_ <;> intro hb
  ·exact absurd hb (by simp)
  refine ak ?_
  apply hK1
  refine rk zs [2] fun K V => ?_
  refine ck func157 ((c_ref13_test fs hfs t s kr ht hp _ _ (by omega) (by (try simp only [MG]); (repeat first | rw [if_pos rfl] | rw [if_neg (by omega)]); rfl))) ?_
  apply V; clear V K
  refine ar ?_
  rw [hr]
  exact ⟨_, rfl, .kl (KO _ _), rfl, fun k hk1 hk2 => by (repeat rw [if_neg (by omega)])⟩
 ·rw [if_neg (by rw [hN]; simp), if_pos hG] at hr
  obtain ⟨b1, b2, _⟩ := Xh hG
  refine rk zs [0, 2, 3, 4, 5] fun K V => ?_
  refine ⟨fun _ => ?_, fun hg => absurd hg (by simp)⟩; refine Zt func138 rfl rfl rfl (c1 103 [40] _ _ (by omega) (by (try simp only [MG]); (repeat first | rw [if_pos rfl] | rw [if_neg (by omega)]); rfl)) ?_
  refine nz ?_
  apply V; clear V K
  refine Zb fun K1 hK1 => ?_
  refine rg zs [0, 2, 3, 4, 26] ?_
  refine Za ?_ ?_ <;> intro hb
  ·have hm1 := m1 b1 (by omega)
   have hso := hI.g b1
   have e0 : IntKind.i64.wrap ((s1.o : Int) + 1) = ((s1.o + 1 : Nat) : Int) := by rw [w64 (by omega) (by omega)]; omega
   refine Zh zs [0, 2, 3, 4] fun K V => ?_
   try simp only [go_sem, seval, hR1, hszs, hags, hmos, hss, g1, g2, g3, g4, g5, g6, g7, g8, f1, f2, f3, f4, f5, f6, f7, f8, f9, h1, h2, h3, rwAV, Ro.obj, Ro.av, roAV, Xa, Y3, YG, Yn, hN, hG, Bool.false_eq_true, if_false, if_true, e0]
   repeat refine peel ?_
   apply V; clear V K
   refine Zb fun K2 hK2 => ?_
   refine rg zs [0, 2, 3, 4, 38] ?_
   refine Za ?_ ?_ <;> intro hb
   ·have hd : 16 < s1.o + 1 := by have := of_decide_eq_true hb; omega
    rw [if_pos hd] at hr
    refine rg zs [2] ?_
    refine rg zs [2] ?_
    refine ar ?_
    rw [hr]
    exact ⟨_, rfl, Ve _ _ _ _, rfl, fun k hk1 hk2 => by (repeat rw [if_neg (by omega)])⟩
   have hd : ¬ 16 < s1.o + 1 := by have := of_decide_eq_false hb; omega
   rw [if_neg hd] at hr
   have hI2 : RI t { s1 with o := s1.o + 1 } := ⟨p1, by simp only; omega, fun _ => by simp only; omega⟩
   have hm2 : Ro.m t { s1 with o := s1.o + 1 } = s1.m t := rfl
   obtain ⟨y, hy⟩ : ∃ y, y = Zz fs t f { s1 with o := s1.o + 1 } := ⟨_, rfl⟩
   obtain ⟨z, hz⟩ : ∃ z, z = ZR fs t f { s1 with o := s1.o + 1 } := ⟨_, rfl⟩
   have hyo := ((Vf (fs := fs) ht f).2.2.2.2 { s1 with o := s1.o + 1 } p1)
   have hzo := ((Vf (fs := fs) ht f).1 { s1 with o := s1.o + 1 } p1)
   have cY := fun H n a b => hy ▸ (hF f (by omega)).1 { s1 with o := s1.o + 1 } H n hI2 (by omega) a b
   have cZ := fun H n a b => hz ▸ (hF f (by omega)).2 { s1 with o := s1.o + 1 } H n hI2 (by omega) a b
   rw [← hy] at hyo
   rw [← hz] at hzo
   simp only [← hy, ← hz] at hr
   clear hy hz
   have hyo1 := hyo.o; have hyo2 := hyo.o2; have hzo1 := hzo.o; have hzo2 := hzo.o2
   simp only at hyo1 hyo2 hzo1 hzo2
   have e1 : IntKind.i64.wrap ((y.2.o : Int) - 1) = ((y.2.o - 1 : Nat) : Int) := by rw [w64 (by omega) (by omega)]; omega
   obtain ⟨u, hu⟩ : ∃ u, u = isS t 103 [41] z.2 := ⟨_, rfl⟩
   have cU := fun H n a b => hu ▸ Vj fs t z.2 kr ht hzo.p 103 [41] H n a b
   have huo : u.o = z.2.o := by rw [hu]; unfold isS; split; exact YF _ _; rfl
   try simp only [← hu] at hr
   clear hu
   refine ak ?_
   apply hK2
   refine rg zs [0, 2, 4, 6] ?_
   refine Zb fun K3 hK3 => ?_
   refine rg zs [0, 2, 6, 45] ?_
   refine Za ?_ ?_ <;> intro hb
   ·exact absurd hb (by simp)
   refine rg zs [0, 2, 6] ?_
   refine rk zs [0, 2, 6, 8] fun K V => ?_
   refine ck func107 ((cZ _ _ (by omega) (by (try simp only [MG]); (repeat first | rw [if_pos rfl] | rw [if_neg (by omega)]); rfl))) ?_
   apply V; clear V K
   refine Yu (n + 1) 5 (ver := 0) (e := 5) (els := [.agg [.str wIn, .nilsl, .str [], .str [], .int .i64 0]]) (els' := [.agg [.str wIn, .osl (n + 3) 0 0 0, .str [], .str [], .int .i64 0]]) (by simp [Heap.put, wIn, g5]) ⟨Adp.agg ⟨.refl _ _, Adp.nilsl _, .refl _ _, .refl _ _, .refl _ _, trivial⟩, trivial⟩ ?_
   refine rg zs [0, 2, 6] ?_
   refine rk zs [0, 2, 6, 9] fun K V => ?_
   refine ck func138 ((cU _ _ (by omega) (by (try simp only [MG]); (repeat first | rw [if_pos rfl] | rw [if_neg (by omega)]); rfl))) ?_
   apply V; clear V K
   refine rg zs [0, 2, 6, 73] ?_
   refine Za ?_ ?_ <;> intro hb
   ·have hz3 := Uw hb
    rw [if_pos ⟨of_decide_eq_true hz3.1, by simpa using hz3.2⟩] at hr
    have hwo : (YC t u).o = u.o := (XC _ _).2.1
    have e1 : IntKind.i64.wrap (((YC t u).o : Int) - 1) = (((YC t u).o - 1 : Nat) : Int) := by rw [w64 (by omega) (by omega)]; omega
    refine rk1 zs [0, 2, 6] fun K V => ?_
    refine ck func108 ((Xx fs t u kr _ _ (by omega) (by (try simp only [MG]); (repeat first | rw [if_pos rfl] | rw [if_neg (by omega)]); rfl))) ?_
    apply V; clear V K
    refine ns ?_
    apply hK3
    refine Zh zs [2, 6] fun K V => ?_
    try simp only [go_sem, seval, hR1, hszs, hags, hmos, hss, g1, g2, g3, g4, g5, g6, g7, g8, f1, f2, f3, f4, f5, f6, f7, f8, f9, h1, h2, h3, rwAV, Ro.obj, Ro.av, roAV, Xa, Y3, YG, Yn, hN, hG, Bool.false_eq_true, if_false, if_true, e1]
    repeat refine peel ?_
    apply V; clear V K
    refine rg zs [2] ?_
    refine ar ?_
    rw [hr]
    exact ⟨_, rfl, frz_nd1 _ _ _ _ (by (try simp only [MG]); (repeat first | rw [if_pos rfl] | rw [if_neg (by omega)]); rfl) (by omega), rfl, fun k hk1 hk2 => by (repeat rw [if_neg (by omega)])⟩
   rw [if_neg (by rintro ⟨a1, a2⟩; rw [a2, decide_eq_true a1] at hb; cases hb)] at hr
   have e1 : IntKind.i64.wrap ((u.o : Int) - 1) = ((u.o - 1 : Nat) : Int) := by rw [w64 (by omega) (by omega)]; omega
   refine ak ?_
   apply hK3
   refine Zh zs [2, 6] fun K V => ?_
   try simp only [go_sem, seval, hR1, hszs, hags, hmos, hss, g1, g2, g3, g4, g5, g6, g7, g8, f1, f2, f3, f4, f5, f6, f7, f8, f9, h1, h2, h3, rwAV, Ro.obj, Ro.av, roAV, Xa, Y3, YG, Yn, hN, hG, Bool.false_eq_true, if_false, if_true, e1]
   repeat refine peel ?_
   apply V; clear V K
   refine rg zs [2] ?_
   refine ar ?_
   rw [hr]
   exact ⟨_, rfl, frz_nd1 _ _ _ _ (by (try simp only [MG]); (repeat first | rw [if_pos rfl] | rw [if_neg (by omega)]); rfl) (by omega), rfl, fun k hk1 hk2 => by (repeat rw [if_neg (by omega)])⟩
  exact absurd hb (by simp)
 ·rw [if_pos hN] at hr
  obtain ⟨b1, b2, _⟩ := Xh hN
  refine rk zs [0, 2, 3, 4, 5] fun K V => ?_
  refine ⟨fun hg => absurd hg (by simp), fun _ => ⟨.bool false, ?_⟩⟩
  refine nz ?_
  apply V; clear V K
  refine Zb fun K1 hK1 => ?_
  refine rg zs [0, 2, 3, 4, 26] ?_
  refine Za ?_ ?_ <;> intro hb
  ·have hm1 := m1 b1 (by omega)
   have hso := hI.g b1
   have e0 : IntKind.i64.wrap ((s1.o : Int) + 1) = ((s1.o + 1 : Nat) : Int) := by rw [w64 (by omega) (by omega)]; omega
   refine Zh zs [0, 2, 3, 4] fun K V => ?_
   try simp only [go_sem, seval, hR1, hszs, hags, hmos, hss, g1, g2, g3, g4, g5, g6, g7, g8, f1, f2, f3, f4, f5, f6, f7, f8, f9, h1, h2, h3, rwAV, Ro.obj, Ro.av, roAV, Xa, Y3, YG, Yn, hN, hG, Bool.false_eq_true, if_false, if_true, e0]
   repeat refine peel ?_
   apply V; clear V K
   refine Zb fun K2 hK2 => ?_
   refine rg zs [0, 2, 3, 4, 38] ?_
   refine Za ?_ ?_ <;> intro hb
   ·have hd : 16 < s1.o + 1 := by have := of_decide_eq_true hb; omega
    rw [if_pos hd] at hr
    refine rg zs [2] ?_
    refine rg zs [2] ?_
    refine ar ?_
    rw [hr]
    exact ⟨_, rfl, Ve _ _ _ _, rfl, fun k hk1 hk2 => by (repeat rw [if_neg (by omega)])⟩
   have hd : ¬ 16 < s1.o + 1 := by have := of_decide_eq_false hb; omega
   rw [if_neg hd] at hr
   have hI2 : RI t { s1 with o := s1.o + 1 } := ⟨p1, by simp only; omega, fun _ => by simp only; omega⟩
   have hm2 : Ro.m t { s1 with o := s1.o + 1 } = s1.m t := rfl
   obtain ⟨y, hy⟩ : ∃ y, y = Zz fs t f { s1 with o := s1.o + 1 } := ⟨_, rfl⟩
   obtain ⟨z, hz⟩ : ∃ z, z = ZR fs t f { s1 with o := s1.o + 1 } := ⟨_, rfl⟩
   have hyo := ((Vf (fs := fs) ht f).2.2.2.2 { s1 with o := s1.o + 1 } p1)
   have hzo := ((Vf (fs := fs) ht f).1 { s1 with o := s1.o + 1 } p1)
   have cY := fun H n a b => hy ▸ (hF f (by omega)).1 { s1 with o := s1.o + 1 } H n hI2 (by omega) a b
   have cZ := fun H n a b => hz ▸ (hF f (by omega)).2 { s1 with o := s1.o + 1 } H n hI2 (by omega) a b
   rw [← hy] at hyo
   rw [← hz] at hzo
   simp only [← hy, ← hz] at hr
   clear hy hz
   have hyo1 := hyo.o; have hyo2 := hyo.o2; have hzo1 := hzo.o; have hzo2 := hzo.o2
   simp only at hyo1 hyo2 hzo1 hzo2
   have e1 : IntKind.i64.wrap ((y.2.o : Int) - 1) = ((y.2.o - 1 : Nat) : Int) := by rw [w64 (by omega) (by omega)]; omega
   obtain ⟨u, hu⟩ : ∃ u, u = isS t 103 [41] z.2 := ⟨_, rfl⟩
   have cU := fun H n a b => hu ▸ Vj fs t z.2 kr ht hzo.p 103 [41] H n a b
   have huo : u.o = z.2.o := by rw [hu]; unfold isS; split; exact YF _ _; rfl
   try simp only [← hu] at hr
   clear hu
   refine ak ?_
   apply hK2
   refine rg zs [0, 2, 4, 6] ?_
   refine Zb fun K3 hK3 => ?_
   refine rg zs [0, 2, 6, 45] ?_
   refine Za ?_ ?_ <;> intro hb
   ·refine rk zs [0, 2, 6, 7] fun K V => ?_
    refine ck func151 ((cY _ _ (by omega) (by (try simp only [MG]); (repeat first | rw [if_pos rfl] | rw [if_neg (by omega)]); rfl))) ?_
    apply V; clear V K
    refine Yu (n + 1) 5 (ver := 0) (e := 5) (els := [.agg [.str wNot, .nilsl, .str [], .str [], .int .i64 0]]) (els' := [.agg [.str wNot, .osl (n + 3) 0 0 0, .str [], .str [], .int .i64 0]]) (by simp [Heap.put, wNot, g5]) ⟨Adp.agg ⟨.refl _ _, Adp.nilsl _, .refl _ _, .refl _ _, .refl _ _, trivial⟩, trivial⟩ ?_
    refine rg1 zs [0, 2, 6] ?_
    apply hK3
    refine Zh zs [2, 6] fun K V => ?_
    try simp only [go_sem, seval, hR1, hszs, hags, hmos, hss, g1, g2, g3, g4, g5, g6, g7, g8, f1, f2, f3, f4, f5, f6, f7, f8, f9, h1, h2, h3, rwAV, Ro.obj, Ro.av, roAV, Xa, Y3, YG, Yn, hN, hG, Bool.false_eq_true, if_false, if_true, e1]
    repeat refine peel ?_
    apply V; clear V K
    refine rg zs [2] ?_
    refine ar ?_
    rw [hr]
    exact ⟨_, rfl, frz_nd1 _ _ _ _ (by (try simp only [MG]); (repeat first | rw [if_pos rfl] | rw [if_neg (by omega)]); rfl) (by omega), rfl, fun k hk1 hk2 => by (repeat rw [if_neg (by omega)])⟩
   exact absurd hb (by simp)
  exact absurd hb (by simp)
theorem ref13_all {fs : List Fml} (hfs : fs.length ≤ 1048576) {t : List UInt8} (ht : t.length ≤ 512) {kr : Nat} (f : Nat) : FactC fs t kr f ∧ TermC fs t kr f ∧ CondC fs t kr f := by
 induction f using Nat.strongRecOn with
 | _ f ih => exact ⟨c_ref13_fact hfs ht fun g hg => ⟨(ih g hg).1, (ih g hg).2.2⟩, c_ref13_term ht fun g hg => (ih g hg).1, c_ref13_cond ht fun g hg => (ih g hg).2.1⟩
def s0R : Ro := ⟨⟨0, [], 0, 0⟩, 0, 0, -1⟩
def XO (fs : List Fml) (t : List UInt8) : CR × Int :=
 if 512 < t.length then (.none, 512)
 else if 0 ≤ (Ze t s0R).bad then (.none, (Ze t s0R).bad)
 else ((ZR fs t (8 * t.length + 16) (Ze t s0R)).1, (if (ZR fs t (8 * t.length + 16) (Ze t s0R)).2.bad < 0 ∧ (ZR fs t (8 * t.length + 16) (Ze t s0R)).2.w.kind ≠ 101 then YC t (ZR fs t (8 * t.length + 16) (Ze t s0R)).2 else (ZR fs t (8 * t.length + 16) (Ze t s0R)).2).bad)
theorem readR_rel (fs : List Fml) (t : List UInt8) : match YU fs t with
   | .ok x => (XO fs t).2 = -1 ∧ (XO fs t).1.tst fs = x.1
   | .error p => (XO fs t).2 = p := by
 unfold YU XO
 by_cases h : 512 < t.length
 ·rw [if_pos h, if_pos h]; rfl
 rw [if_neg h, if_neg h]
 have ht : t.length ≤ 512 := om
 have h1 := JJ (t := t) (s := ⟨0, ⟨0, 0, [], 0, []⟩, [], 0⟩) ht (Nat.zero_le _)
 have e : Ze t (toR ⟨0, ⟨0, 0, [], 0, []⟩, [], 0⟩) = Ze t s0R := by
   unfold Ze Yh toR s0R; by_cases hw : (YY t 0).2.2 = true <;> simp [hw]
 rw [e] at h1
 cases hs : XX t ⟨0, ⟨0, 0, [], 0, []⟩, [], 0⟩ with
 | error p =>
   rw [hs] at h1
   have hb : (Ze t s0R).bad = p := h1.1
   rw [WH, if_pos om]; exact hb
 | ok s =>
   rw [hs] at h1
   obtain ⟨e1, e2, _⟩ := h1
   rw [e1, if_neg (Vq s), Zp]
   have h2 := (J6 (fs := fs) ht (8 * t.length + 16)).2.2.2.2 s e2
   cases hc : XY fs t (8 * t.length + 16) s with
   | error p =>
     rw [hc] at h2
     have hb : (ZR fs t (8 * t.length + 16) (toR s)).2.bad = p := h2
     rw [WH, if_neg (by rintro ⟨a, _⟩; omega)]; exact hb
   | ok x =>
     rw [hc] at h2
     obtain ⟨c1, c2, c3, _⟩ := h2
     rw [Zp]
     simp only [c1]
     have hkd : (toR x.2).w.kind = 101 ↔ x.2.nxt.kind = 0 := (Xd _).1
     by_cases hk : x.2.nxt.kind = 0
     ·rw [if_neg (by simp [hk]), if_neg (by rintro ⟨_, a⟩; exact a (hkd.2 hk))]
      exact ⟨rfl, c2⟩
     ·rw [if_pos hk, if_pos ⟨by simp [toR], fun a => hk (hkd.1 a)⟩]
      exact VS c3.w
theorem NHe0.eqs {P Q : Prop} (g : Imp P Q := by (try simp only [go_sem, seval, hszs, hags, hmos, hss, f1, f2, f3, f4, f5, f6, f7, f8, f9, h1, h2, h3, rwAV, Ro.obj, Ro.av, roAV, Xa, Y3, YG, Yn]); exact MI) : Imp P Q := g
set_option maxHeartbeats 1600000 in
open NHe0 NY in
theorem c_ref13_read (fs : List Fml) (hfs : fs.length ≤ 1048576) (t : List UInt8) (H : Heap) (n : Nat) : Ret prog 71 [Zg fs, .str t] H n (.tup [(XO fs t).1.av, .int .i64 (XO fs t).2]) H n := by
 have hszs : (Zg fs).sz = 1 := rfl
 have hags : (Zg fs).isAgg = true := rfl
 have hmos : (Zg fs).memOK = true := rfl
 have hss : ∀ g, strip g (Zg fs) = Zg fs := fun g => by cases g <;> rfl
 have f1 : (n = n + 1) = False := osi
 have f2 : (n + 1 = n) = False := osi
 have f3 : (n + 2 = n) = False := osi
 have f4 : (n + 2 = n + 1) = False := osi
 have f5 : (n + 1 = n + 2) = False := osi
 have f6 : (n = n + 2) = False := osi
 have f7 : (n = n + 3) = False := osi
 have f8 : (n + 1 = n + 3) = False := osi
 have f9 : (n + 2 = n + 3) = False := osi
 have h1 : (n + 3 = n) = False := osi
 have h2 : (n + 3 = n + 1) = False := osi
 have h3 : (n + 3 = n + 2) = False := osi
 obtain ⟨r, hr⟩ : ∃ r, r = XO fs t := ⟨_, rfl⟩
 rw [← hr]
 unfold XO at hr
 refine Ret.fin ?_
 refine fw func71 ntmps71 results71 ?_
 refine rg zs [1, 2, 4] ?_
 refine Zb fun K1 hK1 => ?_
 refine rg zs [1, 2, 4, 10] ?_
 refine Za ?_ ?_ <;> intro hb
 ·have hd : 512 < t.length := ott
  rw [if_pos hd] at hr
  refine rg zs [4, 5] ?_
  refine kbj ?_
  exact Ve _ _ _ _
 have hd : ¬ 512 < t.length := otf
 rw [if_neg hd] at hr
 have ht : t.length ≤ 512 := om
 have p1 := Uj (s := s0R) ht (Nat.zero_le _)
 have ho := YF t s0R
 obtain ⟨s, hs⟩ : ∃ s, s = Ze t s0R := ⟨_, rfl⟩
 have cN := fun kr H n a b => hs ▸ XT fs t s0R kr ht (Nat.zero_le _) H n a b
 rw [← hs] at hr p1 ho
 clear hs
 have ho2 : s.o = 0 := ho
 have hms : s.m t ≤ t.length + 1 := by unfold Ro.m; split; (split <;> omega); omega
 have hI : RI t s := ⟨p1, om, fun _ => om⟩
 refine kay ?_
 refine rg zs [4, 6] ?_
 refine rk zs [4, 6] fun K V => ?_
 refine ck func106 ((cN (n + 2) _ _ om (MF _ _ _))) ?_
 refine kas ?_
 refine Zb fun K2 hK2 => ?_
 refine rg zs [4, 6, 22] ?_
 refine Za ?_ ?_ <;> intro hb
 ·rw [if_pos (of_decide_eq_true hb)] at hr
  refine dx zs [4, 5] [.q, .m, .q, .q, .q, .w [2, 3, 4], .q] [0, 1, 2, 3, 4, 5, 6] [0, 1, 2, 3, 4, 5, 6] fun K V => ?_
  refine kas ?_
  refine kbj ?_
  exact Ve _ _ _ _
 rw [if_neg (of_decide_eq_false hb)] at hr
 obtain ⟨x, hx⟩ : ∃ x, x = ZR fs t (8 * t.length + 16) s := ⟨_, rfl⟩
 have cC := fun H n9 a b => hx ▸ (ref13_all hfs ht (kr := n + 2) (8 * t.length + 16)).2.2 s H n9 hI om a b
 have hxo := (Vf (fs := fs) ht (8 * t.length + 16)).1 s p1
 rw [← hx] at hr hxo
 clear hx
 refine kaQ ?_
 refine rk zs [4, 6, 7] fun K V => ?_
 refine ck func107 ((cC _ _ om ohr)) ?_
 refine kas ?_
 refine Zb fun K3 hK3 => ?_
 refine rg zs [4, 6, 7, 42] ?_
 refine Za ?_ ?_ <;> intro hb
 ·have hz := Uw hb
  rw [if_pos ⟨of_decide_eq_true hz.1, by have h9 := hz.2; simp at h9; omega⟩] at hr
  refine rk1 zs [4, 6, 7] fun K V => ?_
  refine ck func108 ((Xx fs t x.2 (n + 2) _ _ om ohr)) ?_
  refine kas ?_
  refine ns ?_
  apply hK3
  refine dx zs [4, 5] [.q, .m, .q, .q, .q, .w [2, 3, 4], .q] [0, 1, 2, 3, 4, 5, 6] [0, 1, 2, 3, 4, 5, 6] fun K V => ?_
  refine kas ?_
  refine kbj ?_
  exact .kl (KO _ _)
 rw [if_neg (by rintro ⟨a1, a2⟩; rw [decide_eq_true a1] at hb; have h9 := hb; simp at h9; omega)] at hr
 refine kba ?_
 refine dx zs [4, 5] [.q, .m, .q, .q, .q, .w [2, 3, 4], .q] [0, 1, 2, 3, 4, 5, 6] [0, 1, 2, 3, 4, 5, 6] fun K V => ?_
 refine kas ?_
 refine kbj ?_
 exact .kl (KO _ _)
theorem Ms (x : Int) : 0 ≤ intBits .and .u8 x 15 ∧ intBits .and .u8 x 15 < 16 := by
 have h : intBits .and .u8 x 15 = (((BitVec.ofInt 8 x) &&& 15#8).toNat : Int) := by
   show IntKind.u8.wrap (((BitVec.ofInt 8 x) &&& (BitVec.ofInt 8 15)).toNat : Int) = _
   rw [IntKind.wrap_u8, show BitVec.ofInt 8 15 = 15#8 by decide]
   have := ((BitVec.ofInt 8 x) &&& 15#8).isLt
   omega
 have h2 : ((BitVec.ofInt 8 x) &&& 15#8).toNat ≤ 15 := by rw [BitVec.toNat_and]; exact Nat.and_le_right
 omega
def tabQ (i : Int) : Int := UE.getD i.toNat 0
theorem nth_tab (x : Int) : nth Uc (intBits .and .u8 x 15).toNat = .int .u32 (tabQ (intBits .and .u8 x 15)) := by
 have h := Ms x
 unfold tabQ Uc
 exact ZP (fun n => AV.int .u32 n) UE _ (by rw [show UE.length = 16 from rfl]; omega)
def sumS (c : Int) (b : UInt8) : Int :=
 let c1 := intBits .xor .u32 (c.fdiv (2 ^ min 4 32)) (tabQ (intBits .and .u8 (intBits .xor .u8 (IntKind.u8.wrap c) b.toNat) 15))
 intBits .xor .u32 (c1.fdiv (2 ^ min 4 32)) (tabQ (intBits .and .u8 (intBits .xor .u8 (IntKind.u8.wrap c1) ((b.toNat : Int).fdiv (2 ^ min 4 8))) 15))
def sumP (c : Int) (b : List UInt8) : Int := b.foldl sumS c
def sumF (parts : List (List UInt8)) : Int := intBits .xor .u32 4294967295 (parts.foldl sumP 4294967295)
def lowB (v : Int) : List UInt8 := [Yp v, Yp (v / 256), Yp (v / 65536), Yp (v / 16777216)]
theorem NQi0.eqs {P Q : Prop} (g : Imp P Q := by (try simp only [go_sem, seval, List.length_map, hT]); exact MI) : Imp P Q := g
open NQi0 NY in
theorem Vi (parts : List (List UInt8)) (hp : parts.length ≤ 1048576) (hbs : ∀ b ∈ parts, b.length ≤ 1099511627776) {H : Heap} {n : Nat} (hG : GOK 1 1 H n) : Ret prog 86 [.sl 1 (parts.map bys)] H n (.int .u32 (sumF parts)) H n := by
 have hT := hG.table
 refine fw func86 ntmps86 results86 ?_
 refine kcu ?_
 refine rg zs [0, 3] ?_
 refine Zb fun K1 hK1 => ?_
 refine rg zs [3, 8, 9, 10] ?_
 refine kbM ?_
 refine Zo (fun T' H' n' => ∃ i : Nat, i ≤ parts.length ∧ T' = tl [(3, .int .u32 ((parts.take i).foldl sumP 4294967295)), (8, .sl 1 (parts.map bys)), (9, .int .i64 parts.length), (10, .int .i64 i)] ∧ H = H' ∧ n = n') (fun T' _ _ => parts.length - iv (T' 10)) ?_ ?_
 ·exact ⟨0, Nat.zero_le _, rfl, rfl, rfl⟩
 rintro T1 H1 n1 ⟨i, hi, rfl, rfl, rfl⟩
 refine rg zs [3, 8, 9, 10, 11] ?_
 refine Zb fun K2 hK2 => ?_
 refine Za ?_ ?_ <;> intro hb
 ·have hlt : i < parts.length := ott
  have hnth : nth (parts.map bys) i = bys (parts.getD i []) := ZP bys parts _ hlt
  have hx : IntKind.i64.wrap ((i : Int) + 1) = ((i + 1 : Nat) : Int) := w1 om
  have hm : parts.getD i [] ∈ parts := by rw [show parts.getD i [] = parts[i] by simp [List.getD, hlt]]; exact List.getElem_mem hlt
  obtain ⟨b, hbd⟩ : ∃ b, b = parts.getD i [] := ⟨_, rfl⟩
  rw [← hbd] at hnth hm
  have hbl := hbs b hm
  refine kaQ ?_
  refine bk fun K3 hK3 => ?_
  refine Zh zs [3, 5, 8, 9, 10] fun K V => ?_
  try simp only [go_sem, seval, List.length_map, hT, hnth, Int.toNat_natCast]
  repeat (first | (refine And.intro ?_ ?_; · first | exact ⟨om, om⟩) | refine peel ?_)
  refine kas ?_
  refine rg zs [3, 8, 9, 10, 14, 15, 16] ?_
  refine kbM ?_
  refine Zo (fun T' H' n' => ∃ j : Nat, j ≤ b.length ∧ T' = tl [(3, .int .u32 (sumP ((parts.take i).foldl sumP 4294967295) (b.take j))), (8, .sl 1 (parts.map bys)), (9, .int .i64 parts.length), (10, .int .i64 i), (14, bys b), (15, .int .i64 b.length), (16, .int .i64 j)] ∧ H = H' ∧ n = n') (fun T' _ _ => b.length - iv (T' 16)) ?_ ?_
  ·exact ⟨0, Nat.zero_le _, rfl, rfl, rfl⟩
  rintro T1 H1 n1 ⟨j, hj, rfl, rfl, rfl⟩
  refine rg zs [3, 8, 9, 10, 14, 15, 16, 17] ?_
  refine Zb fun K4 hK4 => ?_
  refine Za ?_ ?_ <;> intro hb
  ·have hltj : j < b.length := ott
   have hntj : nth (b.map Zd) j = Zd (b.getD j 0) := ZP Zd b _ hltj
   have hxj : IntKind.i64.wrap ((j : Int) + 1) = ((j + 1 : Nat) : Int) := w1 om
   have hst : sumP ((parts.take i).foldl sumP 4294967295) (b.take (j + 1)) = sumS (sumP ((parts.take i).foldl sumP 4294967295) (b.take j)) (b.getD j 0) := by unfold sumP; rw [List.take_succ_eq_append_getElem hltj, List.foldl_append]; simp [List.getD, hltj]
   generalize hcc : sumP ((parts.take i).foldl sumP 4294967295) (b.take j) = c at hst
   refine kb3 ?_
   refine bk fun K5 hK5 => ?_
   refine Zh zs [3, 7, 8, 9, 10, 14, 15, 16] fun K V => ?_
   try simp only [go_sem, seval, List.length_map, hT, hntj, Int.toNat_natCast]
   repeat (first | (refine And.intro ?_ ?_; · first | exact ⟨om, om⟩) | refine peel ?_)
   refine kas ?_
   refine Zh zs [3, 7, 8, 9, 10, 14, 15, 16] fun K V => ?_
   try simp only [go_sem, seval, List.length_map, hT, nth_tab]
   repeat (first | (refine And.intro ?_ ?_; · first | exact ⟨(Ms _).1, (Ms _).2, rfl⟩) | refine peel ?_)
   refine kas ?_
   refine ZV zs [3, 8, 9, 10, 14, 15, 16] fun K V => ?_
   try simp only [go_sem, seval, List.length_map, hT, nth_tab]
   repeat (first | (refine And.intro ?_ ?_; · first | exact ⟨(Ms _).1, (Ms _).2, rfl⟩) | refine peel ?_)
   refine kas ?_
   refine ns ?_
   apply hK5
   refine rg1 zs [3, 8, 9, 10, 14, 15, 16] ?_
   refine ⟨⟨j + 1, om, ?_⟩, by rw [hxj]; omega⟩
   rw [hxj]
   rw [hst]; rfl
  refine ax ?_
  apply hK3
  refine rg1 zs [3, 8, 9, 10] ?_
  have hgj : b.length ≤ j := otf
  refine ⟨⟨i + 1, om, ?_⟩, by rw [hx]; omega⟩
  rw [hx, List.take_of_length_le hgj, List.take_succ_eq_append_getElem hlt, List.foldl_append, hbd]
  simp [List.getD, hlt]
 have hge : i = parts.length := otf
 refine ax ?_
 apply hK1
 refine kal ?_
 rw [hge, List.take_length]; rfl
theorem fdiv8 (v : Int) : v.fdiv (2 ^ min 8 32) = v / 256 := by rw [show (2 : Int) ^ min 8 32 = 256 by decide, Int.fdiv_eq_ediv_of_nonneg _ odc]
theorem fdiv16 (v : Int) : v.fdiv (2 ^ min 16 32) = v / 65536 := by rw [show (2 : Int) ^ min 16 32 = 65536 by decide, Int.fdiv_eq_ediv_of_nonneg _ odc]
theorem fdiv24 (v : Int) : v.fdiv (2 ^ min 24 32) = v / 16777216 := by rw [show (2 : Int) ^ min 24 32 = 16777216 by decide, Int.fdiv_eq_ediv_of_nonneg _ odc]
theorem NQi1.eqs {P Q : Prop} (g : Imp P Q := by (try simp only [go_sem, seval, fdiv8, fdiv16, fdiv24, Vm]); exact MI) : Imp P Q := g
theorem NQi1.sd {P : Prop} (g : P := by first | exact ⟨rfl, by (simp [Zd, AV.sz, AV.memOK]; first | done | fail)⟩ | fail) : P := g
open NQi1 NZ in
theorem c_wire_low0 (v : Int) (H : Heap) (n : Nat) : Ret prog 123 [.nilsl, .int .u32 v] H n (bys (lowB v)) H n := by
 refine Ret.fin ?_
 refine fw func123 ntmps123 results123 ?_
 refine kb1 ?_
 refine YK 0 1 rfl ?_
 simp only [go_sem, seval]
 refine kag ?_
 exact ⟨_, rfl, fun k hk => by rw [if_neg om], .osl (MF _ _ _) (Nat.le_refl _) osi (Un _ (Z4 (lowB v) _))⟩
theorem NQi2.eqs {P Q : Prop} (g : Imp P Q := by (try simp only [go_sem, seval, hk, e1, List.length_map, fdiv8, fdiv16, fdiv24, Vm]); exact MI) : Imp P Q := g
theorem NQi2.sd {P : Prop} (g : P := by first | exact ⟨rfl, by (simp [Zd, AV.sz, AV.memOK]; first | done | fail)⟩ | exact ⟨om, .inr trivial, om, om⟩ | fail) : P := g
open NQi2 NZ in
theorem Lu (v : Int) (b : List UInt8) (hb : b.length ≤ 1099511627776) (k ver : Nat) {H : Heap} {n : Nat} (hk : H k = some (.arr ver 1 (b.map Zd))) : Ret prog 123 [.osl k ver 0 b.length, .int .u32 v] H n (.osl k (ver + 1) 0 (b ++ lowB v).length) (H.put k (some (.arr (ver + 1) 1 ((b ++ lowB v).map Zd)))) n := by
 have e1 : List.take b.length (List.map Zd b) = List.map Zd b := List.take_of_length_le osi
 refine fw func123 ntmps123 results123 ?_
 refine kb1 ?_
 refine kag ?_
 refine ⟨by simp [lowB], by rw [List.map_append]; rfl⟩
theorem NQi3.eqs {P Q : Prop} (g : Imp P Q := by (try simp only [go_sem, seval, e1, e2, List.length_map, Option.getD_some, Int.toNat_natCast]); exact MI) : Imp P Q := g
theorem NQi3.sd {P : Prop} (g : P := by first | exact ⟨om, om, om, fun m h => h.elim⟩ | fail) : P := g
open NQi3 NZ in
theorem c_wire_is (b : List UInt8) (p : Nat) (v : Int) (hp : p + 4 ≤ b.length) (hb : b.length ≤ 1099511627776) (H : Heap) (n : Nat) : Ret prog 131 [bys b, .int .i64 p, .int .u32 v] H n (.bool ((b.drop p).take 4 == lowB v)) H n := by
 have e1 : IntKind.i64.wrap ((p : Int) + 4) = ((p + 4 : Nat) : Int) := by rw [w64 om om]; omega
 have e2 : List.drop p (List.take (p + 4) (b.map Zd)) = ((b.drop p).take 4).map Zd := by rw [List.take_add, List.drop_append_of_le_length oz, List.drop_take_self, List.nil_append, ← List.map_drop, ← List.map_take]
 refine fw func131 ntmps131 results131 ?_
 refine rg zs [0, 1, 2] ?_
 refine dx zs [6] [.m, .m, .m, .q, .q, .m, .c, .c, .q] [0, 1, 2, 3, 4, 5, 6, 7, 8] [0, 1, 2, 3, 4, 5, 6, 7, 8] fun K V => ?_
 refine cq func123 (fun _ n => (c_wire_low0 v _ _)) ?_
 refine cq func96 (fun _ n => (VR ((b.drop p).take 4) (lowB v) _ _)) ?_
 refine kas ?_
 refine ar ?_
 trivial
def HQ : Heap := fun k => if k = 1 then some (.glob 1 Uc) else if k = 1 then some (.glob 5 LK) else none
theorem QG {n : Nat} (h1 : 1 < n) (h2 : 1 < n) : GOK 1 1 HQ n := ⟨fun h => (if_neg h).trans (if_pos rfl), if_pos rfl, h1, h2⟩
theorem Vd {H : Heap} {n : Nat} (hG : GOK 1 1 H n) : JA H HQ := fun k o h => by
 unfold HQ at h
 by_cases e : k = 1
 ·rw [if_pos e] at h; cases h; subst e
  exact ⟨hG.table, 1, Uc, rfl, VB (fun n : Int => .int .u32 n) (fun _ => trivial) _⟩
 ·rw [if_neg e] at h
  by_cases e2 : k = 1
  ·rw [if_pos e2] at h; cases h; subst e2
   exact ⟨hG.kindsC e, 5, LK, rfl, VB (fun i : Nat => kindAV i) (fun _ => ⟨trivial, trivial, trivial, trivial, trivial, trivial⟩) _⟩
  ·rw [if_neg e2] at h; cases h
theorem c_Sum_osl (b : List UInt8) (hb : b.length ≤ 1099511627776) {k ver : Nat} {H : Heap} {n : Nat} (hG : GOK 1 1 H n) (hk : H k = some (.arr ver 1 (b.map Zd))) : Ret prog 86 [.sl 1 [.osl k ver 0 b.length]] H n (.int .u32 (sumF [b])) H n :=
 Nl (H0 := HQ) (args' := [.sl 1 ([b].map bys)]) (Vd hG) (.cons (.sl (.cons (.osl hk (Nat.zero_le _) osi (by rw [List.drop_zero, List.take_of_length_le osi]; exact Un _ (Z4 _ _))) .nil)) .nil) trivial
   (Vi [b] osi (fun x hx => by rw [List.mem_singleton.1 hx]; exact hb) (QG hG.gek hG.get))
def XG (n : Nat) : List UInt8 := [Yp ((n : Int) / 16777216), Yp ((n : Int) / 65536), Yp ((n : Int) / 256), Yp (n : Int)]
def frameB (b : List UInt8) : List UInt8 := XG b.length ++ lowB (sumF [XG b.length]) ++ b ++ lowB (sumF [b])
theorem fdiv8' (v : Int) : v.fdiv (2 ^ min 8 64) = v / 256 := by rw [show (2 : Int) ^ min 8 64 = 256 by decide, Int.fdiv_eq_ediv_of_nonneg _ odc]
theorem fdiv16' (v : Int) : v.fdiv (2 ^ min 16 64) = v / 65536 := by rw [show (2 : Int) ^ min 16 64 = 65536 by decide, Int.fdiv_eq_ediv_of_nonneg _ odc]
theorem fdiv24' (v : Int) : v.fdiv (2 ^ min 24 64) = v / 16777216 := by rw [show (2 : Int) ^ min 24 64 = 16777216 by decide, Int.fdiv_eq_ediv_of_nonneg _ odc]
theorem NQj0.eqs {P Q : Prop} (g : Imp P Q := by (try simp only [go_sem, seval, List.length_map, fdiv8', fdiv16', fdiv24', Vm, e0]); exact MI) : Imp P Q := g
theorem NQj0.sd {P : Prop} (g : P := by first | exact ⟨rfl, by (simp [Zd, AV.sz, AV.memOK]; first | done | fail)⟩ | exact ⟨om, om⟩ | fail) : P := g
open NQj0 NZ in
theorem o_wire_Frame (b : List UInt8) (hb : b.length ≤ 1048576) {H : Heap} {n : Nat} (hG : GOK 1 1 H n) : Zi prog 85 [bys b] H n (OAns H n (.tup [bys (frameB b), .int .i64 0])) := by
 have hG0 := hG
 have hl8 : (XG b.length ++ lowB (sumF [XG b.length])).length = 8 := rfl
 have e8 : List.take (XG b.length ++ lowB (sumF [XG b.length])).length (List.map Zd (XG b.length ++ lowB (sumF [XG b.length]))) = List.map Zd (XG b.length ++ lowB (sumF [XG b.length])) := List.take_of_length_le osi
 have e0 : IntKind.i64.wrap ((b.length : Int) + 12) = ((b.length + 12 : Nat) : Int) := by rw [w64 om om]; omega
 refine fw func85 ntmps85 results85 ?_
 refine kcu ?_
 refine rg zs [0, 4] ?_
 refine Zb fun K1 hK1 => ?_
 refine rg zs [0, 4, 9] ?_
 refine Za ?_ ?_ <;> intro hb
 ·exact absurd (of_decide_eq_true hb) om
 refine kay ?_
 refine rg zs [0, 5] ?_
 refine Ym (fun H' n' => H' n = some (.arr 1 1 ((XG b.length).map Zd)) ∧ GOK 1 1 H' n' ∧ (∀ k, k < n → H' k = H k) ∧ n' = n + 1) ⟨MF _ _ _, hG.on (fun k hk => ME _ _ om) om, fun k hk => ME _ _ om, rfl⟩ fun H1 n1 ⟨r1, hG, hl1, hn1⟩ => ?_
 subst hn1
 refine Zh zs [0, 5] fun K V => ?_
 refine kcA ?_
 repeat (first | (refine And.intro ?_ ?_; · first | exact ⟨rfl, by simp [Zd, AV.sz, AV.memOK]⟩) | refine peel ?_)
 refine Zt func86 rfl rfl rfl ((c_Sum_osl (XG b.length) (by simp [XG]) hG r1)) ?_
 refine kcA ?_
 repeat refine peel ?_
 refine Zt func123 rfl rfl rfl ((Lu (sumF [XG b.length]) (XG b.length) (by simp [XG]) n 1 r1)) ?_
 refine kcA ?_
 repeat (first | (refine And.intro ?_ ?_; · first | exact ⟨om, .inr trivial, by rw [hl8]; omega, by rw [hl8]; omega⟩) | refine peel ?_)
 refine kas ?_
 refine Ym (fun H' n' => H' n = some (.arr 3 1 ((XG b.length ++ lowB (sumF [XG b.length]) ++ b).map Zd)) ∧ GOK 1 1 H' n' ∧ (∀ k, k < n → H' k = H k) ∧ n' = n + 1) ⟨by simp only [MF, List.map_append], hG0.on (fun k hk => (ME _ _ om).trans (hl1 k hk)) om, fun k hk => (ME _ _ om).trans (hl1 k hk), rfl⟩ fun H2 n2 ⟨r2, hG, hl2, hn2⟩ => ?_
 subst hn2
 refine kbS ?_
 refine rk zs [2, 3] fun K V => ?_
 refine ck func86 ((Vi [b] osi (fun x hx => by rw [List.mem_singleton.1 hx]; omega) hG)) ?_
 refine ck func123 ((Lu (sumF [b]) (XG b.length ++ lowB (sumF [XG b.length]) ++ b) (by rw [List.length_append, hl8]; omega) n 3 r2)) ?_
 refine kas ?_
 refine ar ?_
 exact OAns.one (Na (.osl (MF _ _ _) osi (by rw [List.take_of_length_le osi]; exact M9 _ (V3 (frameB b))))) om (fun k hk => (ME _ _ om).trans (hl2 k hk)) om
theorem or_nat {x y : Nat} (hx : x < 9223372036854775808) (hy : y < 9223372036854775808) : intBits .or .i64 (x : Int) (y : Int) = ((x ||| y : Nat) : Int) ∧ x ||| y < 9223372036854775808 := by
 have h3 : x ||| y < 9223372036854775808 := Nat.or_lt_two_pow (n := 63) hx hy
 refine ⟨?_, h3⟩
 show IntKind.i64.wrap (((BitVec.ofInt 64 (x : Int)) ||| (BitVec.ofInt 64 (y : Int))).toNat : Int) = _
 rw [BitVec.ofInt_natCast, BitVec.ofInt_natCast, BitVec.toNat_or, BitVec.toNat_ofNat, BitVec.toNat_ofNat, Nat.mod_eq_of_lt om, Nat.mod_eq_of_lt om, w64 om om]
def hd4 (b : List UInt8) : Nat := (((b.getD 0 0).toNat * 16777216 ||| (b.getD 1 0).toNat * 65536) ||| (b.getD 2 0).toNat * 256) ||| (b.getD 3 0).toNat
theorem hd4_int (b : List UInt8) : intBits .or .i64 (intBits .or .i64 (intBits .or .i64 (IntKind.i64.wrap (IntKind.i64.wrap ((b.getD 0 0).toNat : Int) * 2 ^ min 24 64)) (IntKind.i64.wrap (IntKind.i64.wrap ((b.getD 1 0).toNat : Int) * 2 ^ min 16 64))) (IntKind.i64.wrap (IntKind.i64.wrap ((b.getD 2 0).toNat : Int) * 2 ^ min 8 64))) (IntKind.i64.wrap ((b.getD 3 0).toNat : Int)) = ((hd4 b : Nat) : Int) ∧ hd4 b < 9223372036854775808 := by
 have a0 := (b.getD 0 0).toNat_lt
 have a1 := (b.getD 1 0).toNat_lt
 have a2 := (b.getD 2 0).toNat_lt
 have a3 := (b.getD 3 0).toNat_lt
 unfold hd4
 generalize (b.getD 0 0).toNat = x0 at *
 generalize (b.getD 1 0).toNat = x1 at *
 generalize (b.getD 2 0).toNat = x2 at *
 generalize (b.getD 3 0).toNat = x3 at *
 have e0 : IntKind.i64.wrap (IntKind.i64.wrap (x0 : Int) * 2 ^ min 24 64) = ((x0 * 16777216 : Nat) : Int) := by rw [w64 (n := (x0 : Int)) om om, show (2 : Int) ^ min 24 64 = 16777216 by decide, w64 om om]; omega
 have e1 : IntKind.i64.wrap (IntKind.i64.wrap (x1 : Int) * 2 ^ min 16 64) = ((x1 * 65536 : Nat) : Int) := by rw [w64 (n := (x1 : Int)) om om, show (2 : Int) ^ min 16 64 = 65536 by decide, w64 om om]; omega
 have e2 : IntKind.i64.wrap (IntKind.i64.wrap (x2 : Int) * 2 ^ min 8 64) = ((x2 * 256 : Nat) : Int) := by rw [w64 (n := (x2 : Int)) om om, show (2 : Int) ^ min 8 64 = 256 by decide, w64 om om]; omega
 have e3 : IntKind.i64.wrap (x3 : Int) = (x3 : Int) := w64 om om
 rw [e0, e1, e2, e3]
 obtain ⟨h1, h2⟩ := or_nat (x := x0 * 16777216) (y := x1 * 65536) om om
 obtain ⟨h3, h4⟩ := or_nat (x := x0 * 16777216 ||| x1 * 65536) (y := x2 * 256) h2 om
 obtain ⟨h5, h6⟩ := or_nat (x := x0 * 16777216 ||| x1 * 65536 ||| x2 * 256) (y := x3) h4 om
 rw [h1, h3, h5]
 exact ⟨rfl, h6⟩
def rfN (b : List UInt8) (N : Nat) : List UInt8 × Int × Int :=
 if b.length < 8 then ([], 0, 10)
 else if ((b.drop 4).take 4 == lowB (sumF [b.take 4])) = false then ([], 0, 12)
 else if 1048576 < N then ([], 0, 13)
 else if b.length - 8 < N + 4 then ([], 0, 10)
 else if ((b.drop (8 + N)).take 4 == lowB (sumF [(b.drop 8).take (N)])) = false then ([], 0, 12)
 else ((b.drop 8).take (N), ((8 + N + 4 : Nat) : Int), 0)
def rfQ (b : List UInt8) : List UInt8 × Int × Int := rfN b (hd4 b)
theorem NQj1.eqs {P Q : Prop} (g : Imp P Q := by (try simp only [go_sem, seval, List.length_map]); exact MI) : Imp P Q := g
set_option maxHeartbeats 1600000 in
open NQj1 NY in
theorem J7 (b : List UInt8) (hb9 : b.length ≤ 1099511627776) {H : Heap} {n : Nat} (hG : GOK 1 1 H n) : Ret prog 92 [bys b, .int .i64 0] H n (.tup [bys (rfQ b).1, .int .i64 (rfQ b).2.1, .int .i64 (rfQ b).2.2]) H n := by
 obtain ⟨N, hNd⟩ : ∃ N, N = hd4 b := ⟨_, rfl⟩
 obtain ⟨hNi, hN⟩ := hd4_int b
 rw [← hNd] at hNi hN
 have hrf : rfQ b = rfN b N := by rw [hNd]; unfold rfQ; rfl
 rw [hrf]
 clear hrf hNd
 have k1 : IntKind.i64.wrap 1 = 1 := odc
 have k2 : IntKind.i64.wrap 2 = 2 := odc
 have k3 : IntKind.i64.wrap 3 = 3 := odc
 have k4 : IntKind.i64.wrap 4 = 4 := odc
 have k8 : IntKind.i64.wrap 8 = 8 := odc
 have m1 : (1 : Int).toNat = 1 := rfl
 have m2 : (2 : Int).toNat = 2 := rfl
 have m3 : (3 : Int).toNat = 3 := rfl
 have m4 : (4 : Int).toNat = 4 := rfl
 refine Ret.fin ?_
 refine fw func92 ntmps92 results92 ?_
 refine kb1 ?_
 refine bk fun K1 hK1 => ?_
 refine rc zs [0, 1, 9] func130 ((Vh b 0 _ _)) ?_
 refine Za ?_ ?_ <;> intro hb
 ·exact absurd (of_decide_eq_true hb) om
 refine rg zs [0, 1, 13] ?_
 refine Za ?_ ?_ <;> intro hb
 ·have h8 : b.length < 8 := by have := of_decide_eq_true hb; rw [w64 om om] at this; omega
  have hw : rfN b N = ([], 0, 10) := by unfold rfN; rw [if_pos h8]
  exact kaf
 have h8 : 8 ≤ b.length := by have := of_decide_eq_false hb; rw [w64 om om] at this; omega
 have e2 : List.take 4 (b.map Zd) = (b.take 4).map Zd := by rw [List.map_take]
 have n0 : nth (b.map Zd) 0 = Zd (b.getD 0 0) := ZP Zd b _ om
 have n1 : nth (b.map Zd) 1 = Zd (b.getD 1 0) := ZP Zd b _ om
 have n2 : nth (b.map Zd) 2 = Zd (b.getD 2 0) := ZP Zd b _ om
 have n3 : nth (b.map Zd) 3 = Zd (b.getD 3 0) := ZP Zd b _ om
 refine Zh zs [0, 1, 19] fun K V => ?_
 refine kbP ?_
 repeat (first | (refine And.intro ?_ ?_; · first | exact ⟨om, fun m h => h.elim⟩ | exact ⟨rfl, by simp [AV.sz, AV.memOK]⟩) | refine peel ?_)
 refine Zt func86 rfl rfl rfl ((Vi [b.take 4] osi (fun x hx => by rw [List.mem_singleton.1 hx, List.length_take]; omega) hG)) ?_
 refine kbP ?_
 repeat refine peel ?_
 refine Zt func131 rfl rfl rfl ((c_wire_is b 4 (sumF [b.take 4]) om hb9 _ _)) ?_
 refine kbP ?_
 refine kad ?_
 refine Za ?_ ?_ <;> intro hb
 ·have hw : rfN b N = ([], 0, 12) := by unfold rfN; rw [if_neg om, if_pos osb]
  exact kaf
 have hs1 : ((b.drop 4).take 4 == lowB (sumF [b.take 4])) = true := osb
 refine kay ?_
 refine Uv rfl zs [0, 1, 7] [.m, .m, .q, .q, .q, .q, .m, .m, .q, .q, .q, .q, .q, .q, .m, .m, .q, .q, .q, .q, .q, .q, .m, .m, .q, .q, .q, .q, .q, .q] [0, 1, 2, 3, 4, 5, 6, 7, 8, 9, 10, 11, 12, 13, 14, 15, 16, 17, 18, 19, 20, 21, 22, 23, 24, 25, 26, 27, 28, 29] [0, 1, 2, 3, 4, 5, 6, 7, 8, 9, 10, 11, 12, 13, 14, 15, 16, 17, 18, 19, 20, 21, 22, 23, 24, 25, 26, 27, 28, 29] (by kernel_rfl) (fun _ _ _ _ _ h => h) fun K V => ?_
 try simp only [go_sem, seval, List.length_map, hNi, n0, n1, n2, n3, k1, k2, k3, k4, m1, m2, m3, m4, k8]
 refine kad ?_
 refine Zh zs [0, 1, 7] fun K V => ?_
 try simp only [go_sem, seval, List.length_map, k8]
 refine kad ?_
 refine bk fun K2 hK2 => ?_
 refine rg zs [0, 1, 7, 63] ?_
 refine Za ?_ ?_ <;> intro hb
 ·have hw : rfN b N = ([], 0, 13) := by unfold rfN; rw [if_neg om, if_neg (by rw [hs1]; simp), if_pos ott]
  exact kaf
 have hN2 : ¬ 1048576 < N := otf
 have j1 : IntKind.i64.wrap ((b.length : Int) - 8) = ((b.length - 8 : Nat) : Int) := by rw [w64 om om]; omega
 have j2 : IntKind.i64.wrap ((N : Int) + 4) = ((N + 4 : Nat) : Int) := by rw [w64 om om]; omega
 have j3 : IntKind.i64.wrap (8 + (N : Int)) = ((8 + N : Nat) : Int) := by rw [w64 om om]; omega
 have j4 : IntKind.i64.wrap (((8 + N : Nat) : Int) + 4) = ((8 + N + 4 : Nat) : Int) := by rw [w64 om om]; omega
 refine Zh zs [0, 1, 7, 66] fun K V => ?_
 try simp only [go_sem, seval, List.length_map, j1, j2]
 refine kad ?_
 refine Za ?_ ?_ <;> intro hb
 ·have hw : rfN b N = ([], 0, 10) := by unfold rfN; rw [if_neg om, if_neg (by rw [hs1]; simp), if_neg hN2, if_pos ott]
  exact kaf
 have hL : ¬ b.length - 8 < N + 4 := otf
 have m8 : (8 : Int).toNat = 8 := rfl
 have e5 : List.drop 8 (List.take (8 + N) (b.map Zd)) = ((b.drop 8).take (N)).map Zd := by rw [List.take_add, List.drop_append_of_le_length oz, List.drop_take_self, List.nil_append, ← List.map_drop, ← List.map_take]
 refine kaQ ?_
 refine Zh zs [0, 1, 7, 8] fun K V => ?_
 try simp only [go_sem, seval, List.length_map, j3, m8, e5, Option.getD_some, Int.toNat_natCast]
 repeat (first | (refine And.intro ?_ ?_; · first | exact ⟨om, om, fun m h => h.elim⟩) | refine peel ?_)
 refine kas ?_
 refine Zb fun K3 hK3 => ?_
 refine Zh zs [1, 7, 8, 88] fun K V => ?_
 try simp only [go_sem, seval, List.length_map, j3]
 repeat (first | (refine And.intro ?_ ?_; · first | exact ⟨rfl, by simp [AV.sz, AV.memOK]⟩) | refine peel ?_)
 refine Zt func86 rfl rfl rfl ((Vi [(b.drop 8).take (N)] osi (fun x hx => by rw [List.mem_singleton.1 hx, List.length_take]; omega) hG)) ?_
 try simp only [go_sem, seval, List.length_map, j3]
 repeat refine peel ?_
 refine Zt func131 rfl rfl rfl ((c_wire_is b (8 + N) (sumF [(b.drop 8).take (N)]) om hb9 _ _)) ?_
 try simp only [go_sem, seval, List.length_map, j3]
 refine kad ?_
 refine Za ?_ ?_ <;> intro hb
 ·have hw : rfN b N = ([], 0, 12) := by unfold rfN; rw [if_neg om, if_neg (by rw [hs1]; simp), if_neg hN2, if_neg hL, if_pos osb]
  exact kaf
 have hw : rfN b N = ((b.drop 8).take (N), ((8 + N + 4 : Nat) : Int), 0) := by unfold rfN; rw [if_neg om, if_neg (by rw [hs1]; simp), if_neg hN2, if_neg hL, if_neg (by rw [show ((b.drop (8 + N)).take 4 == lowB (sumF [(b.drop 8).take (N)])) = true by simpa using hb]; simp)]
 refine kba ?_
 refine Zh zs [4, 5, 6] fun K V => ?_
 try simp only [go_sem, seval, List.length_map, j3, j4]
 repeat refine peel ?_
 refine Zt func53 rfl rfl rfl ((c_bytes_Clone ((b.drop 8).take (N)) (by rw [List.length_take]; omega) _ _)) ?_
 try simp only [go_sem, seval, List.length_map, j3, j4]
 refine kad ?_
 refine ar ?_
 rw [hw]
 exact ⟨_, rfl, .kl ⟨Z4 _ _, trivial, trivial, trivial⟩⟩
def Uz (q : QryE) : List UInt8 := [if q.rev then 1 else 0] ++ Zn q.frm ++ Zn q.to ++ Zj (u64 q.fams.length) ++ (q.fams.flatMap fun f => Zj (u64 f)) ++ Zn q.pre ++ Zj (u64 q.time) ++ Zj (u64 q.n) ++ Zn q.whr
structure U6 (q : QryE) (H : Heap) (n ver M : Nat) (bs : List UInt8) (H' : Heap) (n' : Nat) : Prop where
 q : H' n = some (.arr 0 10 [Zm q])
 b : H' (n + 1) = some (.arr ver 1 (bs.map Zd))
 low : ∀ k, k < n → H' k = H k
 lt : n + 2 ≤ n'
 le : bs.length ≤ M
theorem U6.app {q : QryE} {H : Heap} {n ver M : Nat} {bs : List UInt8} {H1 : Heap} {m : Nat} (h : U6 q H n ver M bs H1 m) (ys : List UInt8) {X : Option AObj} {zs : List AV} (hz : zs = ys.map Zd) {m' K : Nat} (hm : m ≤ m') (V : M + ys.length ≤ K) :
   U6 q H n (ver + 1) K (bs ++ ys) ((H1.put m X).put (n + 1) (some (.arr (ver + 1) 1 (bs.map Zd ++ zs)))) m' where
 q := by rw [ME _ _ om, ME _ _ (by have := h.lt; omega)]; exact h.q
 b := by rw [MF, List.map_append, hz]
 low := fun k hk => by rw [ME _ _ om, ME _ _ (by have := h.lt; omega)]; exact h.low k hk
 lt := by have := h.lt; omega
 le := by have := h.le; rw [List.length_append]; omega
theorem XK (b : List UInt8) : List.take b.length (List.map Zd b) = List.map Zd b := List.take_of_length_le osi
theorem NQk0.eqs {P Q : Prop} (g : Imp P Q := by (try simp only [go_sem, seval, hsz, Zm, Yg, bys, List.length_map, f1, f2, hQ, hB, g1, g2, hnth, hx, XK, Xr, Int.toNat_natCast]); exact MI) : Imp P Q := g
theorem NQk0.sd {P : Prop} (g : P := by first | exact ⟨Nat.le_refl _, Nat.le_refl _, .inr trivial, om, om⟩ | exact ⟨om, om⟩ | fail) : P := g
set_option maxHeartbeats 3200000 in
open NQk0 NZ in
theorem c_query_form (q : QryE) (h1 : q.frm.length ≤ 1048576) (h2 : q.to.length ≤ 1048576) (h3 : q.fams.length ≤ 1048576) (h4 : q.pre.length ≤ 1048576) (h5 : q.whr.length ≤ 1048576) (H : Heap) (n : Nat) : Ret prog 87 [Zm q] H n (bys (Uz q)) H n := by
 have hsz : (Zm q).sz = 10 := Y0 q
 have hQ := hsz
 have hB := hsz
 have g1 := hsz
 have g2 := hsz
 have hnth := hsz
 have hx := hsz
 have f1 : (n = n + 1) = False := osi
 have f2 : (n + 1 = n) = False := osi
 refine Ret.fin ?_
 refine fw func87 ntmps87 results87 ?_
 refine rg zs [1] ?_
 refine rg zo [1, 3] ?_
 refine Yb [1, 3] (fun T' H' n' => T' = tl [(1, .loc n 0 0 0 []), (3, .osl (n + 1) 0 0 1)] ∧ U6 q H n 0 1 [if q.rev then 1 else 0] H' n') ?_ ?_
 ·refine rg zs [1, 3, 8] ?_
  refine Za ?_ ?_ <;> intro hb
  ·refine rg1 zs [1, 3] ?_
   exact kaC
  refine ak ?_
  exact kaC
 rintro T1 H1 m ⟨rfl, hS⟩
 obtain ⟨b0, hb0⟩ : ∃ b, b = [if q.rev then (1 : UInt8) else 0] := ⟨_, rfl⟩
 rw [← hb0] at hS
 have hb1 : b0.length = 1 := by rw [hb0]; rfl
 rw [show AV.osl (n + 1) 0 0 1 = AV.osl (n + 1) 0 0 b0.length by rw [hb1]]
 have hQ := hS.q
 have hB := hS.b
 have hl := hS.lt
 have hle := hS.le
 have g1 : (n + 1 = m) = False := oz
 have g2 : (n = m) = False := oz
 have hy := Zx (v := q.frm.length) om
 have hz : (Zn q.frm).length = (Zj q.frm.length).length + q.frm.length := by simp [Zn]
 refine rk zs [1, 3] fun K V => ?_
 refine ck func84 ((XP q.frm om _ _)) ?_
 refine kas ?_
 refine Ym (fun H' n' => U6 q H n (0 + 1) 1048600 (b0 ++ Zn q.frm) H' n') (hS.app (Zn q.frm) rfl om om) fun H1 m hS => ?_
 refine kbS ?_
 obtain ⟨c1, hc1⟩ : ∃ b, b = b0 ++ Zn q.frm := ⟨_, rfl⟩
 rw [← hc1] at hS ⊢
 have hQ := hS.q
 have hB := hS.b
 have hl := hS.lt
 have hle := hS.le
 have g1 : (n + 1 = m) = False := oz
 have g2 : (n = m) = False := oz
 have hy := Zx (v := q.to.length) om
 have hz : (Zn q.to).length = (Zj q.to.length).length + q.to.length := by simp [Zn]
 refine rk zs [1, 3] fun K V => ?_
 refine ck func84 ((XP q.to om _ _)) ?_
 refine kas ?_
 refine Ym (fun H' n' => U6 q H n (0 + 1 + 1) 2097200 (c1 ++ Zn q.to) H' n') (hS.app (Zn q.to) rfl om om) fun H1 m hS => ?_
 refine kbS ?_
 obtain ⟨c2, hc2⟩ : ∃ b, b = c1 ++ Zn q.to := ⟨_, rfl⟩
 rw [← hc2] at hS ⊢
 have hQ := hS.q
 have hB := hS.b
 have hl := hS.lt
 have hle := hS.le
 have g1 : (n + 1 = m) = False := oz
 have g2 : (n = m) = False := oz
 have hy := Zx (Xp q.fams.length)
 refine rc zs [1, 3] func83 ((Xg (u64 q.fams.length) (Xp _) _ _)) ?_
 refine Zb fun K1 hK1 => ?_
 refine Ym (fun H' n' => U6 q H n (0 + 1 + 1 + 1) 3000000 (c2 ++ Zj (u64 q.fams.length)) H' n') (hS.app (Zj (u64 q.fams.length)) rfl om om) fun H1 m hS => ?_
 refine kbS ?_
 obtain ⟨c3, hc3⟩ : ∃ b, b = c2 ++ Zj (u64 q.fams.length) := ⟨_, rfl⟩
 rw [← hc3] at hS ⊢
 have hQ := hS.q
 have hB := hS.b
 have hl := hS.lt
 have hle := hS.le
 have g1 : (n + 1 = m) = False := oz
 have g2 : (n = m) = False := oz
 refine rg zs [1, 3, 29, 30, 31] ?_
 refine kbM ?_
 refine Zo (fun T' H' n' => ∃ i : Nat, i ≤ q.fams.length ∧ T' = tl [(1, .loc n 0 0 0 []), (3, .osl (n + 1) (3 + i) 0 (c3 ++ (q.fams.take i).flatMap (fun f => Zj (u64 f))).length), (29, Yg q.fams), (30, .int .i64 q.fams.length), (31, .int .i64 i)] ∧ U6 q H n (3 + i) (3000000 + 10 * i) (c3 ++ (q.fams.take i).flatMap (fun f => Zj (u64 f))) H' n') (fun T' _ _ => q.fams.length - iv (T' 31)) ?_ ?_
 ·exact ⟨0, Nat.zero_le _, by simp [Yg], by simpa using hS⟩
 rintro T1 H1 n1 ⟨i, hi, rfl, hS⟩
 obtain ⟨m, hm⟩ : ∃ m, m = n1 := ⟨_, rfl⟩
 subst hm
 refine rg zs [1, 3, 29, 30, 31, 32] ?_
 refine Zb fun K2 hK2 => ?_
 refine Za ?_ ?_ <;> intro hb
 ·have hlt : i < q.fams.length := ott
  have hx : IntKind.i64.wrap ((i : Int) + 1) = ((i + 1 : Nat) : Int) := w1 om
  have hnth : nth (q.fams.map fun n => AV.int .i64 n) i = AV.int .i64 (q.fams.getD i 0) := ZP (fun n => AV.int .i64 n) q.fams _ hlt
  have hy := Zx (Xp (q.fams.getD i 0))
  have hts : (q.fams.take (i + 1)).flatMap (fun f => Zj (u64 f)) = (q.fams.take i).flatMap (fun f => Zj (u64 f)) ++ Zj (u64 (q.fams.getD i 0)) := by rw [List.take_succ_eq_append_getElem hlt, List.flatMap_append]; simp [List.getD, hlt]
  obtain ⟨d, hd⟩ : ∃ d, d = c3 ++ (q.fams.take i).flatMap (fun f => Zj (u64 f)) := ⟨_, rfl⟩
  rw [← hd] at hS ⊢
  have hQ := hS.q
  have hB := hS.b
  have hl := hS.lt
  have hle := hS.le
  have g1 : (n + 1 = m) = False := oz
  have g2 : (n = m) = False := oz
  refine kaQ ?_
  refine bk fun K3 hK3 => ?_
  refine rg zs [1, 3, 5, 29, 30, 31] ?_
  refine rc1 zs [1, 3, 29, 30, 31] func83 ((Xg (u64 (q.fams.getD i 0)) (Xp _) _ _)) ?_
  apply hK3
  refine rg1 zs [1, 3, 29, 30, 31] ?_
  exact kbf
 have hge : i = q.fams.length := otf
 have htk : q.fams.take i = q.fams := List.take_of_length_le om
 subst hge
 obtain ⟨c4, hc4⟩ : ∃ d, d = c3 ++ (q.fams.take q.fams.length).flatMap (fun f => Zj (u64 f)) := ⟨_, rfl⟩
 rw [← hc4] at hS ⊢
 have hQ := hS.q
 have hB := hS.b
 have hl := hS.lt
 have hle := hS.le
 have g1 : (n + 1 = m) = False := oz
 have g2 : (n = m) = False := oz
 have hy := Zx (v := q.pre.length) om
 have hz : (Zn q.pre).length = (Zj q.pre.length).length + q.pre.length := by simp [Zn]
 refine ax ?_
 apply hK1
 refine rk zs [1, 3] fun K V => ?_
 refine ck func84 ((XP q.pre om _ _)) ?_
 refine kas ?_
 refine Ym (fun H' n' => U6 q H n (3 + q.fams.length + 1) 16000000 (c4 ++ Zn q.pre) H' n') (hS.app (Zn q.pre) rfl om om) fun H1 m hS => ?_
 refine kbS ?_
 obtain ⟨c5, hc5⟩ : ∃ b, b = c4 ++ Zn q.pre := ⟨_, rfl⟩
 rw [← hc5] at hS ⊢
 have hQ := hS.q
 have hB := hS.b
 have hl := hS.lt
 have hle := hS.le
 have g1 : (n + 1 = m) = False := oz
 have g2 : (n = m) = False := oz
 have hy := Zx (Xp q.time)
 refine rc zs [1, 3] func83 ((Xg (u64 q.time) (Xp _) _ _)) ?_
 refine Ym (fun H' n' => U6 q H n (3 + q.fams.length + 1 + 1) 16000010 (c5 ++ Zj (u64 q.time)) H' n') (hS.app (Zj (u64 q.time)) rfl om om) fun H1 m hS => ?_
 refine kbS ?_
 obtain ⟨c6, hc6⟩ : ∃ b, b = c5 ++ Zj (u64 q.time) := ⟨_, rfl⟩
 rw [← hc6] at hS ⊢
 have hQ := hS.q
 have hB := hS.b
 have hl := hS.lt
 have hle := hS.le
 have g1 : (n + 1 = m) = False := oz
 have g2 : (n = m) = False := oz
 have hy := Zx (Xp q.n)
 refine rc zs [1, 3] func83 ((Xg (u64 q.n) (Xp _) _ _)) ?_
 refine Ym (fun H' n' => U6 q H n (3 + q.fams.length + 1 + 1 + 1) 16000020 (c6 ++ Zj (u64 q.n)) H' n') (hS.app (Zj (u64 q.n)) rfl om om) fun H1 m hS => ?_
 refine kbS ?_
 obtain ⟨c7, hc7⟩ : ∃ b, b = c6 ++ Zj (u64 q.n) := ⟨_, rfl⟩
 rw [← hc7] at hS ⊢
 have hQ := hS.q
 have hB := hS.b
 have hl := hS.lt
 have hle := hS.le
 have g1 : (n + 1 = m) = False := oz
 have g2 : (n = m) = False := oz
 have hy := Zx (v := q.whr.length) om
 have hz : (Zn q.whr).length = (Zj q.whr.length).length + q.whr.length := by simp [Zn]
 refine rk zs [2] fun K V => ?_
 refine ck func84 ((XP q.whr om _ _)) ?_
 refine kas ?_
 exact kaG
def tokB (q : QryE) (time : Int) (row : List UInt8) : List UInt8 := frameB (Zj (u64 time) ++ Zn row ++ Zj (u64 (sumF [Uz q])))
theorem formB_len {q : QryE} (h : q.fine) : (Uz q).length ≤ 20000000 := by
 have h1 := Zx (v := q.frm.length) (by have := h.frm; omega)
 have h2 := Zx (v := q.to.length) (by have := h.to; omega)
 have h3 := Zx (Xp q.fams.length)
 have h4 := Zx (v := q.pre.length) (by have := h.pre; omega)
 have h5 := Zx (Xp q.time)
 have h6 := Zx (Xp q.n)
 have h7 := Zx (v := q.whr.length) (by have := h.whr; omega)
 have h8 : ∀ l : List Int, (l.flatMap fun f => Zj (u64 f)).length ≤ 10 * l.length := fun l => by
   induction l with
   | nil => simp
   | cons a l ih => have := Zx (Xp a); rw [List.flatMap_cons, List.length_append, List.length_cons]; omega
 have h9 := h8 q.fams
 have := h.frm; have := h.to; have := h.fams; have := h.pre; have := h.whr
 unfold Uz Zn
 simp only [List.length_append, List.length_cons, List.length_nil]
 omega
theorem NQk1.eqs {P Q : Prop} (g : Imp P Q := by (try simp only [go_sem, seval, hsz, hag, hmo, hs, f1, f2, f3, f4, f5, f6, g1, r1, r2, XK, Xr, List.length_map]); exact MI) : Imp P Q := g
theorem NQk1.sd {P : Prop} (g : P := by first | exact ⟨Nat.le_refl _, Nat.le_refl _, .inr trivial, om, om⟩ | fail) : P := g
open NQk1 NZ in
theorem WB (q : QryE) (hq : q.fine) (time : Int) (row : List UInt8) (hr : row.length ≤ 256) {H : Heap} {n : Nat} (hG : GOK 1 1 H n) : Zi prog 56 [.agg [.int .i64 time, bys row], Zm q] H n (OAns H n (bys (tokB q time row))) := by
 have hsz : (Zm q).sz = 10 := Y0 q
 have hag : (Zm q).isAgg = true := rfl
 have hmo : (Zm q).memOK = true := rfl
 have hG0 := hG
 have r1 := hsz
 have r2 := hsz
 have g1 := hsz
 have hy := Zx (v := row.length) om
 have hz : (Zn row).length = (Zj row.length).length + row.length := by simp [Zn]
 have hy2 := Zx (Xp time)
 have hy3 := Zx (Xp (sumF [Uz q]))
 have f1 : (n = n + 1) = False := osi
 have f2 : (n + 1 = n) = False := osi
 have f3 : (n + 1 = n + 2) = False := osi
 have f4 : (n = n + 2) = False := osi
 have f5 : (n + 2 = n + 2 + 1) = False := osi
 have f6 : (n + 2 + 1 = n + 2) = False := osi
 have hs := hsz
 refine fw func56 ntmps56 results56 ?_
 refine rg zs [2, 3] ?_
 refine dx zs [3, 5] [.q, .q, .q, .w [4, 5], .q, .q, .w [], .w [], .q] [0, 1, 2, 4, 5, 3, 6, 7, 8] [0, 1, 2, 5, 3, 4, 6, 7, 8] fun K V => ?_
 refine ck func83 ((Xg (u64 time) (Xp _) _ _)) ?_
 refine ck func84 ((XP row om _ _)) ?_
 refine kas ?_
 refine Ym (fun H' n' => H' (n + 1) = some (.arr 0 10 [Zm q]) ∧ H' (n + 2) = some (.arr ((Zj (u64 time)).length + 1) 1 ((Zj (u64 time) ++ Zn row).map Zd)) ∧ GOK 1 1 H' n' ∧ (∀ k, k < n → H' k = H k) ∧ n + 4 ≤ n') ⟨by (try simp only [MG]); simp, by rw [MF, List.map_append], hG0.on (fun k hk => oh) om, fun k hk => oh, om⟩ fun H1 m ⟨r1, r2, hG, hl1, hm⟩ => ?_
 refine kbS ?_
 have g1 : (n + 2 = m) = False := oz
 have hbl : (Zj (u64 time) ++ Zn row).length ≤ 300 := by rw [List.length_append]; omega
 have e9 : List.take (Zj (u64 time) ++ Zn row).length (List.map Zd (Zj (u64 time) ++ Zn row)) = List.map Zd (Zj (u64 time) ++ Zn row) := XK _
 have hs := e9
 refine Zh zs [6] fun K V => ?_
 refine kaD ?_
 repeat refine peel ?_
 refine Zt func87 rfl rfl rfl ((c_query_form q hq.frm hq.to hq.fams hq.pre hq.whr _ _)) ?_
 refine kaD ?_
 repeat (first | (refine And.intro ?_ ?_; · first | exact ⟨rfl, by simp [AV.sz, AV.memOK]⟩) | refine peel ?_)
 refine Zt func86 rfl rfl rfl ((Vi [Uz q] osi (fun x hx => by rw [List.mem_singleton.1 hx]; have := formB_len hq; omega) hG)) ?_
 refine kaD ?_
 repeat refine peel ?_
 refine Zt func83 rfl rfl rfl ((Xg (u64 (sumF [Uz q])) (Xp _) _ _)) ?_
 refine kaD ?_
 repeat (first | (refine And.intro ?_ ?_; · first | exact ⟨Nat.le_refl _, Nat.le_refl _, .inr trivial, om, om⟩) | refine peel ?_)
 rw [← List.length_append, ← List.map_append]
 refine Zl (args' := [.osl (n + 2) ((Zj (u64 time)).length + 2) 0 (Zj (u64 time) ++ Zn row ++ Zj (u64 (sumF [Uz q]))).length]) func85 rfl rfl rfl (OAns.lend (H0 := HQ) (Vd (hG0.on (fun k hk => ohx (hl1 k hk)) (Nat.le_refl _))) (.cons (.osl (MF _ _ _) (Nat.zero_le _) osi (by rw [List.drop_zero, List.take_of_length_le osi]; exact Un _ (Z4 (Zj (u64 time) ++ Zn row ++ Zj (u64 (sumF [Uz q]))) 0))) .nil) (o_wire_Frame (Zj (u64 time) ++ Zn row ++ Zj (u64 (sumF [Uz q]))) (by rw [List.length_append]; omega) (QG (by have := hG0.gek; omega) (by have := hG0.get; omega)))) ?_ ?_
 rotate_left
 ·intro p H' n' hc; exact hc.pan.elim
 intro rr H2 n2 hc
 obtain ⟨ks, hM⟩ := hc.got
 obtain ⟨a, rfl, ho⟩ := hM.own.tupI_shape
 have hs := fun g => ho.strip g
 refine kaD ?_
 refine kad ?_
 refine kag ?_
 refine ⟨_, ks, rfl, ho, hM.nd, fun k hk => by have := hM.lo k hk; omega, fun k hk => (hM.low k om).trans ?_, by have := hM.nn; omega⟩
 refine ohx ?_; exact hl1 k hk
end Go.Proofs.YtkmkbndcekklmaaGreatDoor
namespace Go.Rt
open Go Go.Sx
theorem schemaE_le {s : List Fml} (h : ZT s = 0) : s.length ≤ 8 := by
 unfold ZT at h
 split at h
 ·cases h
 ·rename_i hb
  simp [bout] at hb
  omega
theorem checkC_parts {qc : Int} {s : List Fml} {c : CmdE} (h : checkC qc s c = 0) :
   ZT s = 0 ∧ bout c.kind 1 7 = false ∧ cb3 c = false ∧ cb4 c = false ∧ cb5 c = false ∧ cb6 s.length c = false ∧ cb7 c = false ∧ cb8 s.length c = false ∧ cb9 c = false ∧ (Wj c.kind = true → qc = 0) ∧ (Wj c.kind = false → c.q = zq) ∧ (cmdB c).length ≤ 98304 := by
 have t : tailC c = 0 → (cmdB c).length ≤ 98304 := fun hx => by
   unfold tailC at hx
   split at hx
   ·cases hx
   ·rename_i h; simp at h; omega
 unfold checkC at h
 split at h
 ·exact absurd h odc
 rename_i h0
 split at h
 ·exact absurd h odc
 rename_i h1
 split at h
 ·exact absurd h odc
 rename_i h2
 split at h
 ·exact absurd h odc
 rename_i h3
 split at h
 ·exact absurd h odc
 rename_i h4
 split at h
 ·exact absurd h odc
 rename_i h5
 split at h
 ·exact absurd h odc
 rename_i h6
 split at h
 ·exact absurd h odc
 rename_i h7
 split at h
 ·exact absurd h odc
 rename_i h8
 refine ⟨by simpa using h0, by simpa using h1, by simpa using h2, by simpa using h3, by simpa using h4, by simpa using h5, by simpa using h6, by simpa using h7, by simpa using h8, ?_⟩
 split at h
 ·rename_i hk
  split at h
  ·rename_i hq; simp [h] at hq
  ·rename_i hq
   exact ⟨fun _ => by simpa using hq, fun e => (by rw [hk] at e; cases e), t h⟩
 ·rename_i hk
  split at h
  ·exact absurd h odc
  ·rename_i hq
   exact ⟨fun e => absurd e hk, fun _ => by simpa using hq, t h⟩
theorem condOK_rds {nf : Nat} (hn : nf ≤ 8) {x : MB} (h : condOK nf x = true) : Rds Li (Vg x) x := by
 unfold condOK at h
 simp [bout] at h
 exact rds_cond om om om om
theorem opOK_rds {nf : Nat} (hn : nf ≤ 8) {x : OpE} (hd : -9223372036854775808 ≤ x.delta ∧ x.delta < 9223372036854775808) (h : opOK nf x = true) : Rds rdOp (opB x) x := by
 unfold opOK at h
 simp [bout] at h
 exact rds_op om om om om om hd
theorem condB_pos (x : MB) : 1 ≤ (Vg x).length := by simp [Vg]
theorem opB_pos (x : OpE) : 1 ≤ (opB x).length := by simp [opB]
theorem rdCmd_B {c : CmdE} {b v : List UInt8} (hb : b = cmdB c ++ v) (hk : 1 ≤ c.kind ∧ c.kind ≤ 7)
   (h2 : 3 ≤ c.kind → (0 ≤ c.client ∧ c.client < 9223372036854775808) ∧ 0 ≤ c.serial ∧ c.serial < 9223372036854775808) (h2' : ¬ 3 ≤ c.kind → c.client = 0 ∧ c.serial = 0)
   (h3 : c.kind = 4 → c.row.length < 9223372036854775808 ∧ (∀ x ∈ c.conds, Rds Li (Vg x) x) ∧ (∀ x ∈ c.ops, Rds rdOp (opB x) x) ∧ c.conds.length < 9223372036854775808 ∧ c.ops.length < 9223372036854775808) (h3' : c.kind ≠ 4 → c.row = [] ∧ c.conds = [] ∧ c.ops = [])
   (h4 : c.kind = 5 ∨ c.kind = 6 → 0 ≤ c.n ∧ c.n < 9223372036854775808) (h4' : ¬ (c.kind = 5 ∨ c.kind = 6) → c.n = 0)
   (h5 : c.kind = 7 → Rds rdQry (qryB c.q) c.q) (h5' : c.kind ≠ 7 → c.q = zq) :
   rdCmd b = if (cmdB c).length = b.length then some c else none := by
 obtain ⟨k, cl, se, row, cds, ops, m, q⟩ := c
 simp only at *
 have hd0 : b.drop 0 = [Yp k] ++ ((if 3 ≤ k then Zj (u64 cl) ++ Zj (u64 se) else []) ++ ((if k = 4 then Zn row ++ Zj cds.length ++ cds.flatMap Vg ++ Zj ops.length ++ ops.flatMap opB
    else if k = 5 ∨ k = 6 then Zj (u64 m) else if k = 7 then qryB q else []) ++ v)) := by
   rw [List.drop_zero, hb]
   simp only [cmdB, List.cons_append, List.append_assoc, List.nil_append]
 have r1 := VY (n := k) om om b 0 _ (Nat.zero_le _) hd0
 obtain ⟨l1, d1⟩ := dadv (Nat.zero_le _) hd0
 have s1 : rs1 b 0 = some ({ zc with kind := k }, 0 + [Yp k].length) := by
   have hbo : bout k 1 7 = false := by simp [bout]; omega
   rw [rs1, r1, Option.bind_some]
   simp only [hbo, Bool.false_eq_true, ↓reduceIte]
 have s2 : rs2 b { zc with kind := k } (0 + [Yp k].length) = some ({ zc with kind := k, client := cl, serial := se }, 0 + [Yp k].length + (if 3 ≤ k then Zj (u64 cl) ++ Zj (u64 se) else []).length) := by
   by_cases h : 3 ≤ k
   ·have hkk : (Xl k || UQ k) = true := by simp [Xl, UQ]; omega
    rw [if_pos h] at d1 ⊢
    rw [List.append_assoc] at d1
    have ra := Vx (h2 h).1.1 (h2 h).1.2 b _ _ l1 d1
    obtain ⟨la, da⟩ := dadv l1 d1
    have rb := Vx (h2 h).2.1 (h2 h).2.2 b _ _ la da
    simp only [rs2, hkk, ↓reduceIte, ra, rb, Option.bind_some]
    simp only [List.length_append, Nat.add_assoc]
   ·have hkk : (Xl k || UQ k) = false := by simp [Xl, UQ]; omega
    obtain ⟨rfl, rfl⟩ := h2' h
    rw [if_neg h]
    simp only [rs2, hkk, Bool.false_eq_true, ↓reduceIte, List.length_nil, Nat.add_zero]
    rfl
 obtain ⟨l2, d2⟩ := dadv l1 d1
 have hlen : (cmdB ⟨k, cl, se, row, cds, ops, m, q⟩).length = 0 + [Yp k].length + (if 3 ≤ k then Zj (u64 cl) ++ Zj (u64 se) else []).length + (if k = 4 then Zn row ++ Zj cds.length ++ cds.flatMap Vg ++ Zj ops.length ++ ops.flatMap opB
    else if k = 5 ∨ k = 6 then Zj (u64 m) else if k = 7 then qryB q else []).length := by
   simp only [cmdB, List.length_cons, List.length_append, List.length_nil]; omega
 generalize hp2 : 0 + [Yp k].length + (if 3 ≤ k then Zj (u64 cl) ++ Zj (u64 se) else []).length = p2 at *
 have s3 : rs3 b { zc with kind := k, client := cl, serial := se } p2 = some ({ zc with kind := k, client := cl, serial := se, row := row, conds := cds, ops := ops }, p2 + (if k = 4 then Zn row ++ Zj cds.length ++ cds.flatMap Vg ++ Zj ops.length ++ ops.flatMap opB else []).length) := by
   by_cases h : k = 4
   ·have hkk : kOps k = true := by simp [kOps, h]
    rw [if_pos h] at d2 ⊢
    obtain ⟨g1, g2, g3, g4, g5⟩ := h3 h
    simp only [List.append_assoc] at d2
    have ra := Y4 g1 b _ _ l2 d2
    obtain ⟨la, da⟩ := dadv l2 d2
    rw [← List.append_assoc] at da
    have rb := Lf g2 condB_pos g4 b _ _ la da
    obtain ⟨lb, db⟩ := dadv la da
    rw [← List.append_assoc] at db
    have rc := Lf g3 opB_pos g5 b _ _ lb db
    simp only [rs3, hkk, ↓reduceIte, ra, rb, rc, Option.bind_some]
    simp only [List.length_append, Nat.add_assoc]
   ·have hkk : kOps k = false := by simp [kOps, h]
    obtain ⟨rfl, rfl, rfl⟩ := h3' h
    rw [if_neg h]
    simp only [rs3, hkk, Bool.false_eq_true, ↓reduceIte, List.length_nil, Nat.add_zero]
    rfl
 have s4 : rs4 b { zc with kind := k, client := cl, serial := se, row := row, conds := cds, ops := ops } (p2 + (if k = 4 then Zn row ++ Zj cds.length ++ cds.flatMap Vg ++ Zj ops.length ++ ops.flatMap opB else []).length) = some ({ zc with kind := k, client := cl, serial := se, row := row, conds := cds, ops := ops, n := m }, p2 + (if k = 4 then Zn row ++ Zj cds.length ++ cds.flatMap Vg ++ Zj ops.length ++ ops.flatMap opB else if k = 5 ∨ k = 6 then Zj (u64 m) else []).length) := by
   by_cases h : k = 5 ∨ k = 6
   ·have hkk : 0 ≤ Vb k := by rcases h with rfl | rfl <;> decide
    have h0 : ¬ k = 4 := om
    rw [if_neg h0, if_pos h] at d2
    rw [if_neg h0, if_neg h0, if_pos h]
    have ra := Vx (h4 h).1 (h4 h).2 b _ _ l2 d2
    simp only [rs4, hkk, ↓reduceIte, List.length_nil, Nat.add_zero, ra, Option.bind_some]
   ·have hkk : ¬ 0 ≤ Vb k := by
      unfold Vb
      rw [if_neg om, if_neg om, if_neg om]; decide
    obtain rfl := h4' h
    rw [if_neg h]
    simp only [rs4, hkk, ↓reduceIte]
    rfl
 have s5 : rs5 b { zc with kind := k, client := cl, serial := se, row := row, conds := cds, ops := ops, n := m } (p2 + (if k = 4 then Zn row ++ Zj cds.length ++ cds.flatMap Vg ++ Zj ops.length ++ ops.flatMap opB else if k = 5 ∨ k = 6 then Zj (u64 m) else []).length) = some (⟨k, cl, se, row, cds, ops, m, q⟩, p2 + (if k = 4 then Zn row ++ Zj cds.length ++ cds.flatMap Vg ++ Zj ops.length ++ ops.flatMap opB
    else if k = 5 ∨ k = 6 then Zj (u64 m) else if k = 7 then qryB q else []).length) := by
   by_cases h : k = 7
   ·have hkk : Wj k = true := by simp [Wj, h]
    have h0 : ¬ k = 4 := om
    have h1 : ¬ (k = 5 ∨ k = 6) := om
    rw [if_neg h0, if_neg h1, if_pos h] at d2
    rw [if_neg h0, if_neg h1, if_neg h0, if_neg h1, if_pos h]
    have ra := h5 h b _ _ l2 d2
    simp only [rs5, hkk, ↓reduceIte, List.length_nil, Nat.add_zero, ra, Option.bind_some]
   ·have hkk : Wj k = false := by simp [Wj, h]
    obtain rfl := h5' h
    rw [if_neg h]
    simp only [rs5, hkk, Bool.false_eq_true, ↓reduceIte]
    rfl
 rw [hlen]
 simp only [rdCmd, s1, s2, s3, s4, s5, Option.bind_some]
structure JB (qc : Int) (s : List Fml) (c : CmdE) : Prop where
 ok : checkC qc s c = 0
 fits : c.fits
 delta : ∀ o ∈ c.ops, -9223372036854775808 ≤ o.delta ∧ o.delta < 9223372036854775808
 nums : Wj c.kind = true → qc = 0 → c.q.nums
theorem JB.rd {qc : Int} {s : List Fml} {c : CmdE} (h : JB qc s c) (v : List UInt8) : rdCmd (cmdB c ++ v) = if (cmdB c).length = (cmdB c ++ v).length then some c else none := by
 obtain ⟨p0, p1, p3, p4, p5, p6, p7, p8, p9, p10, p11, _⟩ := checkC_parts h.ok
 have hs := schemaE_le p0
 simp only [bout, Bool.or_eq_false_iff, decide_eq_false_iff_not] at p1
 have hf := h.fits
 refine rdCmd_B rfl om (fun h3 => ?_) (fun h3 => ?_) (fun h4 => ?_) (fun h4 => ?_) (fun h5 => ?_) (fun h5 => ?_) (fun h7 => ?_) (fun h7 => ?_)
 ·have e : (Xl c.kind || UQ c.kind) = true := by simp [Xl, UQ]; omega
  have e2 : (0 : Int) ≤ (if Xl c.kind then 1 else 0) := by split <;> decide
  simp [cb3, e, bout] at p3
  simp [cb4, bout] at p4
  omega
 ·have e : UQ c.kind = false := by simp [UQ]; omega
  have e2 : Xl c.kind = false := by simp [Xl]; omega
  simp only [cb3, e, e2, bout, Bool.or_self, Bool.false_eq_true, ↓reduceIte, Bool.or_eq_false_iff, decide_eq_false_iff_not] at p3
  have h1 : c.client = 0 := om
  simp [cb4, bout, h1] at p4
  exact ⟨h1, by simpa using p4.2⟩
 ·have e : kOps c.kind = true := by simp [kOps, h4]
  simp [cb6, e] at p6
  simp [cb8] at p8
  exact ⟨by have := hf.row; omega, fun x hx => condOK_rds hs (p6.2 x hx), fun x hx => opOK_rds hs (h.delta x hx) (p8 x hx), by have := hf.conds; omega, by have := hf.ops; omega⟩
 ·have e : kOps c.kind = false := by simp [kOps, h4]
  simp [cb5, e] at p5
  simp [cb6, e] at p6
  simp [cb7, e] at p7
  exact ⟨p5, p6.1.1, p7⟩
 ·simp only [cb9] at p9
  rcases h5 with e | e <;> (simp [e, Vb, bout] at p9; omega)
 ·have e : Vb c.kind < 0 := by
    unfold Vb
    rw [if_neg om, if_neg om, if_neg om]; decide
  simp [cb9, e] at p9
  exact p9.1
 ·have e : Wj c.kind = true := by simp [Wj, h7]
  exact rds_qry (h.nums e (p10 e)) hf.frm hf.to hf.fams hf.pre hf.whr hf.token
 ·exact p11 (by simp [Wj, h7])
theorem JB.pre {qc qc' : Int} {s : List Fml} {c c' : CmdE} (h : JB qc s c) (h' : JB qc' s c') {v : List UInt8} (e : cmdB c = cmdB c' ++ v) : c = c' := by
 have h1 := h.rd []
 have h2 := h'.rd v
 rw [List.append_nil, if_pos rfl, e] at h1
 rw [h1] at h2
 split at h2
 ·exact Option.some.inj h2
 ·cases h2
end Go.Rt
set_option maxRecDepth 10000
namespace Go.Proofs.YtkmkbndcekklmaaGreatDoor
open Go Go.Sx Go.Rt Go.Proofs Tryz
def Xu (q : QryE) : Int × List UInt8 × Int :=
 if q.token.length = 0 then (0, [], 0)
 else if (rfQ q.token).2.2 ≠ 0 then (0, [], 132)
 else if (ruB (rfQ q.token).1 0).2.2 ≠ 0 ∨ (ruB (rfQ q.token).1 0).1 < 1 ∨ 1099511627776 < (ruB (rfQ q.token).1 0).1 ∨ (q.time ≠ 0 ∧ (ruB (rfQ q.token).1 0).1 ≠ u64 q.time) then (0, [], 132)
 else if (rbB (rfQ q.token).1 (ruB (rfQ q.token).1 0).2.1 256).2.2 ≠ 0 ∨ (rbB (rfQ q.token).1 (ruB (rfQ q.token).1 0).2.1 256).1.length = 0 ∨ Jw q (rbB (rfQ q.token).1 (ruB (rfQ q.token).1 0).2.1 256).1 = false ∨ (tokB q (ruB (rfQ q.token).1 0).1 (rbB (rfQ q.token).1 (ruB (rfQ q.token).1 0).2.1 256).1 == q.token) = false then (0, [], 132)
 else (((ruB (rfQ q.token).1 0).1 : Int), (rbB (rfQ q.token).1 (ruB (rfQ q.token).1 0).2.1 256).1, 0)
theorem rbB_most (b : List UInt8) (p most : Nat) : (rbB b p most).1.length ≤ most := by
 unfold rbB
 repeat' split
 all_goals first | simp | skip
 omega
theorem rfQ_len (b : List UInt8) : (rfQ b).1.length ≤ b.length := by
 unfold rfQ rfN
 repeat' split
 all_goals first | simp | skip
 exact Nat.le_trans (Nat.min_le_right _ _) (Nat.sub_le _ _)
theorem kl_nums (l : List Int) (n : Nat) : (Yg l).kl n := VB (fun x : Int => .int .i64 x) (fun _ => trivial) _
theorem kl_qry (q : QryE) (n : Nat) : (Zm q).kl n := ⟨QE _ _, QE _ _, kl_nums _ _, QE _ _, trivial, trivial, trivial, trivial, trivial, QE _ _, trivial⟩
theorem c_tok_lent (q : QryE) (hq : q.fine) (time : Int) (row : List UInt8) (hr : row.length ≤ 256) {H : Heap} (ha : (1 : Nat) ≠ 1 → H 1 = some (.glob 5 LK)) (hb : H 1 = some (.glob 1 Uc)) {a qa : AV} (hf : Frz H 0 a (bys row)) (hqf : Frz H 0 qa (Zm q)) (n : Nat) : Ret prog 56 [.agg [.int .i64 time, a], qa] H n (bys (tokB q time row)) H n :=
 Ret.below hb fun g2 => by
   have key : GOK 1 1 H n → Ret prog 56 [.agg [.int .i64 time, a], qa] H n (bys (tokB q time row)) H n := fun hG =>
     OAns.fin (OAns.lend (Vd hG) (.cons (.agg (.cons (.kl trivial) (.cons hf .nil))) (.cons hqf .nil)) (WB q hq time row hr (QG hG.gek hG.get)))
   by_cases hne : (1 : Nat) = 1
   ·exact key ⟨ha, hb, om, g2⟩
   ·exact Ret.below (ha hne) fun g1 => key ⟨ha, hb, g1, g2⟩
theorem NQl0.eqs {P Q : Prop} (g : Imp P Q := by (try simp only [go_sem, seval, hsz, hag, hmo, f1, f2, f3, f4, f5, f6, hs, g1, g2, l1, l2, hql, hs1, hs2, hs3, ruAV, rbAV, Zm, Yg, bys, List.length_map, Xr, hx]); exact MI) : Imp P Q := g
set_option maxHeartbeats 3200000 in
open NQl0 NY in
theorem Je (q : QryE) (hq : q.fine) {H : Heap} {n : Nat} (hG : GOK 1 1 H n) : Zi prog 59 [Zm q] H n (OAns H n (.tup [.agg [.int .i64 (Xu q).1, bys (Xu q).2.1], .int .i64 (Xu q).2.2])) := by
 have hsz : (Zm q).sz = 10 := Y0 q
 have hag : (Zm q).isAgg = true := rfl
 have hmo : (Zm q).memOK = true := rfl
 obtain ⟨z, hz⟩ : ∃ z, z = Xu q := ⟨_, rfl⟩
 rw [← hz]
 unfold Xu at hz
 have hfl := rfQ_len q.token
 have htl := hq.token
 obtain ⟨fr, hfr⟩ : ∃ f, f = rfQ q.token := ⟨_, rfl⟩
 rw [← hfr] at hz hfl
 obtain ⟨hu1, hu2, hu3⟩ := ruB_lt fr.1 0
 obtain ⟨u, hu⟩ : ∃ u, u = ruB fr.1 0 := ⟨_, rfl⟩
 rw [← hu] at hz hu1 hu2 hu3
 have hbm := rbB_most fr.1 u.2.1 256
 obtain ⟨rb, hrb⟩ : ∃ b, b = rbB fr.1 u.2.1 256 := ⟨_, rfl⟩
 rw [← hrb] at hz hbm
 have hx := hsz
 have hgk := hG.gek
 have hgt := hG.get
 have f1 : (n = n + 1) = False := osi
 have f2 : (n + 1 = n) = False := osi
 have f3 : (n = n + 2) = False := osi
 have f4 : (n + 1 = n + 2) = False := osi
 have f5 : (n + 2 = n) = False := osi
 have f6 : (n + 2 = n + 1) = False := osi
 have hs := hsz
 have g1 := hsz
 have g2 := hsz
 have l1 := hsz
 have l2 := hsz
 have hql := hsz
 have hs1 := hsz
 have hs2 := hsz
 have hs3 := hsz
 refine fw func59 ntmps59 results59 ?_
 refine rg zs [1, 2] ?_
 refine Zb fun K1 hK1 => ?_
 refine rg zs [1, 2, 15] ?_
 refine Za ?_ ?_ <;> intro hb
 ·have h0 : q.token.length = 0 := by have h9 := hb; simp at h9; simp [h9]
  rw [if_pos h0] at hz
  exact kbc
 have h0 : ¬ q.token.length = 0 := by have h9 := hb; simp at h9; simp [h9]
 rw [if_neg h0] at hz
 refine kay ?_
 refine rk zs [1, 2, 4, 6] fun K V => ?_
 refine ck func92 ((hfr ▸ J7 q.token om (hG.on (fun k hk => oh) om))) ?_
 refine kas ?_
 refine Zb fun K2 hK2 => ?_
 refine rg zs [1, 2, 4, 25] ?_
 refine Za ?_ ?_ <;> intro hb
 ·rw [if_pos osb] at hz
  exact kbc
 rw [if_neg osb] at hz
 refine kaQ ?_
 refine rk zs [1, 2, 4, 6, 7, 8] fun K V => ?_
 refine ck func93 ((hu ▸ UA fr.1 0 om om _ _)) ?_
 refine kas ?_
 refine Zb fun K3 hK3 => ?_
 refine rg zs [1, 2, 4, 7, 8, 54] ?_
 refine Za ?_ ?_ <;> intro hb
 ·have hc : u.2.2 ≠ 0 ∨ u.1 < 1 ∨ 1099511627776 < u.1 ∨ (q.time ≠ 0 ∧ u.1 ≠ u64 q.time) := by grind
  rw [if_pos hc] at hz
  exact kbc
 have hc : ¬ (u.2.2 ≠ 0 ∨ u.1 < 1 ∨ 1099511627776 < u.1 ∨ (q.time ≠ 0 ∧ u.1 ≠ u64 q.time)) := by grind
 rw [if_neg hc] at hz
 have hx : IntKind.i64.wrap (u.1 : Int) = (u.1 : Int) := w64 om om
 refine kba ?_
 refine rk zs [1, 2, 6, 7, 9] fun K V => ?_
 refine cK func94 (hrb ▸ JS fr.1 u.2.1 256 om om om _ _) ?_ ?_
 ·intro p H' n' hc; exact hc.pan.elim
 intro rr H2 n2 hc
 obtain ⟨ks, hM⟩ := hc.got
 obtain ⟨a, rfl, ho⟩ := hM.own.tupII_shape
 have hs := fun g => ho.strip g
 have hn2 := hM.nn
 have g1 : (n = n2) = False := oz
 have g2 : (n + 1 = n2) = False := oz
 have l1 := hM.low n om
 have l2 := hM.low (n + 1) om
 have hql := ho.qLen prog 22
 rw [List.length_map] at hql
 have hak : ∀ (Hc : Heap), (∀ k, k < n2 → Hc k = H2 k) → ∀ m, Ret prog 95 [Zm q, a] Hc m (.bool (Jw q rb.1)) Hc m := fun Hc hc m => Ret.lend trivial (.cons (.kl (kl_qry q 0)) (.cons (ho.lnt.on fun k hk => hc k (by have := hM.lo k hk; omega)).frz .nil)) (c_query_asks q rb.1 _ _)
 have hfz : ∀ (Hc : Heap), (∀ k, k < n2 → Hc k = H2 k) → Frz Hc 0 a (bys rb.1) := fun Hc hc => (ho.lnt.on fun k hk => hc k (by have := hM.lo k hk; omega)).frz
 obtain ⟨hs1, hs2, hs3⟩ := ho.sl_sz
 refine nz ?_
 refine kas ?_
 refine rg zs [1, 2, 6, 9, 11] ?_
 refine Zb fun K4 hK4 => ?_
 refine dx zs [2, 11, 88] [.m, .q, .m, .m, .q, .q, .q, .m, .q, .m, .c, .q, .q, .m, .q, .q, .c, .q, .q, .c, .q, .q] [0, 1, 2, 3, 4, 5, 6, 7, 8, 9, 10, 11, 12, 13, 14, 15, 16, 17, 18, 19, 20, 21] [0, 1, 2, 3, 4, 5, 6, 7, 8, 9, 10, 11, 12, 13, 14, 15, 16, 17, 18, 19, 20, 21] fun K V => ?_
 refine cq func95 (fun _ n => (hak _ (fun k hk => oh) n)) ?_
 refine cq func56 (fun _ n => (c_tok_lent q hq u.1 rb.1 hbm (fun hne => by refine ohx ?_; rw [hM.low _ om]; refine ohx ?_; exact hG.kindsC hne) (by refine ohx ?_; rw [hM.low _ om]; refine ohx ?_; exact hG.table) (hfz _ (fun k hk => oh)) (.kl (kl_qry q 0)) n)) ?_
 refine cq func96 (fun _ n => (VR (tokB q u.1 rb.1) q.token _ _)) ?_
 refine kas ?_
 refine Za ?_ ?_ <;> intro hb
 ·have hc2 : rb.2.2 ≠ 0 ∨ rb.1.length = 0 ∨ Jw q rb.1 = false ∨ (tokB q u.1 rb.1 == q.token) = false := by grind
  rw [if_pos hc2] at hz
  refine rg zs [2, 3] ?_
  refine ar ?_
  rw [hz]
  exact OAns.emp (Na (Nw .nilsl)) (fun k hk => by refine ohx ?_; rw [hM.low k om]; exact oh) om
 have hc2 : ¬ (rb.2.2 ≠ 0 ∨ rb.1.length = 0 ∨ Jw q rb.1 = false ∨ (tokB q u.1 rb.1 == q.token) = false) := by grind
 rw [if_neg hc2] at hz
 refine kb3 ?_
 refine rg zs [2, 3] ?_
 refine ar ?_
 rw [hz]
 exact ⟨_, ks, rfl, Na (Nw (ho.frame fun k hk => by (try simp only [MG]); (repeat rw [if_neg (by have := hM.lo k hk; omega)]))), hM.nd, fun k hk => by have := hM.lo k hk; omega, fun k hk => by refine ohx ?_; rw [hM.low k om]; (try simp only [MG]); (repeat first | rw [if_pos rfl] | rw [if_pos trivial] | rw [if_neg om]), om⟩
theorem Ut (q : QryE) (hq : q.fine) {H : Heap} {n : Nat} (hG : GOK 1 1 H n) : Ret prog 59 [Zm q] H n (.tup [.agg [.int .i64 (Xu q).1, bys (Xu q).2.1], .int .i64 (Xu q).2.2]) H n := OAns.fin (Je q hq hG)
def qcE (fs : List Fml) (q : QryE) : Int :=
 if ZT fs ≠ 0 then ZT fs
 else if Kl fs.length q = false then 130
 else if 0 < q.whr.length ∧ (YT fs q.whr).2.1 ≠ 0 then (YT fs q.whr).2.1
 else (Xu q).2.2
theorem NQl1.eqs {P Q : Prop} (g : Imp P Q := by (try simp only [go_sem, seval, hsz, hag, hmo, hszs, hags, hmos, f1, f2, Zg, Zm, Yg, bys, List.length_map]); exact MI) : Imp P Q := g
set_option maxHeartbeats 1600000 in
open NQl1 NY in
theorem c_query_Check (fs : List Fml) (hfs : fs.length ≤ 1048576) (q : QryE) (hq : q.fine) {H : Heap} {n : Nat} (hG : GOK 1 1 H n) : Ret prog 34 [Zg fs, Zm q] H n (.int .i64 (qcE fs q)) H n := by
 have hsz : (Zm q).sz = 10 := Y0 q
 have hag : (Zm q).isAgg = true := rfl
 have hmo : (Zm q).memOK = true := rfl
 have hszs : (Zg fs).sz = 1 := rfl
 have hags : (Zg fs).isAgg = true := rfl
 have hmos : (Zg fs).memOK = true := rfl
 obtain ⟨z, hz⟩ : ∃ z, z = qcE fs q := ⟨_, rfl⟩
 rw [← hz]
 unfold qcE at hz
 have f1 : (n = n + 1) = False := osi
 have f2 : (n + 1 = n) = False := osi
 refine Ret.fin ?_
 refine fw func34 ntmps34 results34 ?_
 refine rg zs [2, 3] ?_
 refine Zb fun K1 hK1 => ?_
 refine rc zs [2, 3, 5] func66 ((Vl fs _ _)) ?_
 refine rg zs [2, 3, 5, 14] ?_
 refine Za ?_ ?_ <;> intro hb
 ·rw [if_pos osb] at hz
  refine kag ?_
  exact kbq
 rw [if_neg osb] at hz
 refine kay ?_
 refine Zb fun K2 hK2 => ?_
 refine rc zs [2, 3, 19] func67 ((c_query_fits fs hfs q hq.fams _ _)) ?_
 refine Za ?_ ?_ <;> intro hb
 ·rw [if_pos osb] at hz
  refine kag ?_
  exact kbq
 rw [if_neg osb] at hz
 refine kaQ ?_
 refine Zb fun K3 hK3 => ?_
 refine rg zs [2, 3, 23] ?_
 refine Za ?_ ?_ <;> intro hb
 ·have hw0 : 0 < q.whr.length := ott
  refine rc zs [3, 7] func39 ((Vk fs hfs q.whr _ _)) ?_
  refine rg zs [3, 7, 33] ?_
  refine Za ?_ ?_ <;> intro hb
  ·rw [if_pos ⟨hw0, osb⟩] at hz
   refine kag ?_
   exact kbq
  rw [if_neg (fun h => h.2 osb)] at hz
  refine kba ?_
  refine rk zs [10] fun K V => ?_
  refine ck func59 ((Ut q hq (hG.on (fun k hk => oh) om))) ?_
  refine kas ?_
  refine kag ?_
  exact kbq
 rw [if_neg (fun h => otf)] at hz
 refine kba ?_
 refine rk zs [10] fun K V => ?_
 refine ck func59 ((Ut q hq (hG.on (fun k hk => oh) om))) ?_
 refine kas ?_
 refine kag ?_
 exact kbq
end Go.Proofs.YtkmkbndcekklmaaGreatDoor
set_option maxRecDepth 10000
namespace Go.Proofs.YtkmkbndcekklmaaGreatDoor
open Go Go.Sx Go.Rt Go.Proofs
end Go.Proofs.YtkmkbndcekklmaaGreatDoor
set_option maxRecDepth 10000
namespace Go.Proofs.YtkmkbndcekklmaaGreatDoor
open Go Go.Sx Go.Rt Go.Proofs Tryz
theorem NHi0.eqs {P Q : Prop} (g : Imp P Q := by (try simp only [go_sem, seval, X9]); exact MI) : Imp P Q := g
theorem NHi0.sd {P : Prop} (g : P := by first | exact Vn _ | fail) : P := g
open NHi0 NZ in
theorem c_ref1_Same (a b : List UInt8) (H : Heap) (n : Nat) : Ret prog 46 [bys a, bys b] H n (.bool (a == b)) H n := by
 refine fw func46 ntmps46 results46 ?_
 refine kb1 ?_
 refine kag ?_
 trivial
theorem NHi2.eqs {P Q : Prop} (g : Imp P Q := by (try simp only [go_sem, seval, List.length_map, e1, Option.getD_some, Int.toNat_natCast]); exact MI) : Imp P Q := g
theorem NHi2.sd {P : Prop} (g : P := by first | exact ⟨.inr trivial, om, om⟩ | fail) : P := g
open NHi2 NZ in
theorem o_ref1_Part (b : List UInt8) (hb : b.length ≤ 1099511627776) (lo hi : Nat) (h1 : lo ≤ hi) (h2 : hi ≤ b.length) (H : Heap) (n : Nat) : Ret prog 58 [bys b, .int .i64 lo, .int .i64 hi] H n (.osl n 1 0 ((b.take hi).drop lo).length) (H.put n (some (.arr 1 1 (((b.take hi).drop lo).map Zd)))) (n + 1) := by
 have e1 : List.drop lo (List.take hi (b.map Zd)) = ((b.take hi).drop lo).map Zd := by rw [List.map_drop, List.map_take]
 have hl : ((b.take hi).drop lo).length ≤ b.length := by rw [List.length_drop, List.length_take]; omega
 refine fw func58 ntmps58 results58 ?_
 refine rg zs [0, 1, 2] ?_
 refine rg zs [0, 1, 2, 7] ?_
 refine YK 7 1 rfl ?_
 simp only [go_sem, seval]
 refine rg zs [6] ?_
 refine ar ?_
 trivial
theorem NC10.eqs {P Q : Prop} (g : Imp P Q := by (try simp only [go_sem, seval, List.length_map]); exact MI) : Imp P Q := g
open NC10 NY in
theorem o_law13_part (b : List UInt8) (hb : b.length ≤ 1099511627776) (H : Heap) (n : Nat) : Ret prog 23 [bys b] H n (.osl n 1 0 b.length) (H.put n (some (.arr 1 1 (b.map Zd)))) (n + 1) := by
 have h9 := o_ref1_Part b hb 0 b.length (Nat.zero_le _) (Nat.le_refl _) H n
 exact kbY
theorem NC11.eqs {P Q : Prop} (g : Imp P Q := by (try simp only [go_sem, seval, List.length_map, hE, Option.getD_some, Option.getD_none, Int.toNat_natCast]); exact MI) : Imp P Q := g
theorem NC11.sd {P : Prop} (g : P := by first | exact ⟨Nat.le_refl _, .inr trivial, om, om⟩ | exact ⟨rfl, by (simp [AV.sz, AV.memOK]; first | done | fail)⟩ | fail) : P := g
open NC11 NZ in
theorem Ui (b : List UInt8) (hb : b.length ≤ 1099511627776) (H : Heap) (n : Nat) : Ret prog 65 [bys b] H n (.tup [.osl n 2 0 b.length, .osl n 2 0 (b.length + 5)]) (H.put n (some (Vp (n, b)))) (n + 1) := by
 have hE : List.take b.length (List.map Zd b) = List.map Zd b := List.take_of_length_le osi
 refine fw func65 ntmps65 results65 ?_
 refine kcu ?_
 refine rc zs [0, 4] func23 ((o_law13_part b hb _ _)) ?_
 refine rg zs [2, 3] ?_
 refine ar ?_
 exact ⟨by rw [Nat.sub_zero], by unfold Vp; rw [List.map_append]; rfl⟩
def Jz (rows : List RowE) (err : Int) (ks kw kt lo m : Nat) (kb : List (Nat × List UInt8)) (tk : List Nat) (H : Heap) (n : Nat) (res : ARes) (H' : Heap) (n' : Nat) : Prop :=
 n ≤ n' ∧ (∀ k, k < n → k ≠ ks → k ≠ kw → k ≠ kt → H' k = H k) ∧
 if m < rows.length then ∃ k1 k2 v2 js vw vt kb2 tels tk2, res = .val (.tup [.agg [.osl k1 2 0 (rows.getD m default).row.length, .osl k2 v2 0 (rows.getD m default).cells.length], .bool true, .int .i64 0]) ∧ Own H' (.agg [.osl k1 2 0 (rows.getD m default).row.length, .osl k2 v2 0 (rows.getD m default).cells.length]) (ZO (rows.getD m default)) js ∧ (∀ k ∈ js, n ≤ k ∧ k < n') ∧ SrcS rows err ks kw kt lo (m + 1) vw vt kb2 tels tk2 H' n' ∧ (∀ k ∈ tk2, k ∈ tk ∨ n ≤ k) ∧ tels.length ≤ m + 1 ∧ kb2.length ≤ kb.length + 1 + 2 * (rows.getD m default).cells.length
 else ∃ vw vt tels, res = .val (.tup [.agg [.nilsl, .nilsl], .bool false, .int .i64 err]) ∧ SrcS rows err ks kw kt lo (m + 1) vw vt kb tels tk H' n' ∧ tels.length ≤ m + 1
theorem NC12.eqs {P Q : Prop} (g : Imp P Q := by (try simp only [go_sem, seval, hO, g1, g2, g3, e1, e2, hrs, hra, hrm, hcs, hca, hcm, hnth, hW, hr1, hnc, hx1, hc1, ho1, i1, i2, i3, i4, i5, i6, i7, i8, j1, j2, j3, j4, j5, j6, j7, j8, hn5, hn6, hn7, hn8, hKt, hT1, Nat.add_assoc, g13, g4, g5, g6, g7, g8, g9, g10, g11, g12, f2, f3, f4, f5, List.length_map, Int.toNat_natCast, ZO, Zv]); exact MI) : Imp P Q := g
theorem NC12.sd {P : Prop} (g : P := by first | exact ⟨Nat.le_refl _, .inr trivial, by have := hN.le; omega, by have := hN.le; omega⟩ | exact ⟨rfl, by (simp [AV.sz, AV.memOK]; first | done | fail)⟩ | exact ⟨rfl, by (simp [AV.sz, AV.szs, AV.memOK]; first | done | fail)⟩ | exact ⟨Nat.le_refl _, .inr trivial, om, om⟩ | fail) : P := g
set_option maxHeartbeats 6400000 in
open NC12 NZ in
theorem QR (rows : List RowE) (err : Int) (hrl : rows.length ≤ 1048576) (hrb : ∀ x ∈ rows, x.row.length ≤ 1099511627776 ∧ x.cells.length ≤ 1048576 ∧ ∀ c ∈ x.cells, c.qual.length ≤ 1099511627776 ∧ c.value.length ≤ 1099511627776) (ks kw kt lo m vw vt : Nat) (kb : List (Nat × List UInt8)) (tels : List AV) (tk : List Nat) (H : Heap) (n : Nat)
   (h : SrcS rows err ks kw kt lo m vw vt kb tels tk H n) (hm : m ≤ 2097152) (htl : tels.length ≤ m) (hkl : kb.length ≤ 4398046511104) : Zi prog 187 [.loc ks 0 0 0 []] H n (Jz rows err ks kw kt lo m kb tk H n) := by
 have hO := h.ho
 unfold VX at hO
 obtain ⟨d1, d2, d3, d4, d5, d6, d7⟩ := h.d
 have hrs : ∀ r, (ZO r).sz = 2 := rowAV_sz
 have hra : ∀ r, (ZO r).isAgg = true := fun _ => rfl
 have hrm : ∀ r, (ZO r).memOK = true := fun _ => rfl
 have hcs : ∀ c, (Zv c).sz = 4 := Ww
 have hca : ∀ c, (Zv c).isAgg = true := fun _ => rfl
 have hcm : ∀ c, (Zv c).memOK = true := fun _ => rfl
 have g1 : (ks = n) = False := oz
 have g2 : (ks = n + 1) = False := oz
 have g3 : (n = ks) = False := oz
 have e1 : IntKind.i64.wrap ((m : Int) + 1) = ((m + 1 : Nat) : Int) := w1 om
 have e2 : IntKind.i64.wrap (((m + 1 : Nat) : Int) - 1) = (m : Int) := by rw [w64 om om]; omega
 have hnth := d7
 have hW := d7
 have hr1 := d7
 have hnc := d7
 have hx1 := d7
 have hc1 := d7
 have ho1 := d7
 have i1 := d7
 have i2 := d7
 have i3 := d7
 have i4 := d7
 have i5 := d7
 have i6 := d7
 have i7 := d7
 have i8 := d7
 have j1 := d7
 have j2 := d7
 have j3 := d7
 have j4 := d7
 have j5 := d7
 have j6 := d7
 have j7 := d7
 have j8 := d7
 have hn5 := d7
 have hn6 := d7
 have hn7 := d7
 have hn8 := d7
 have hKt := d7
 have hT1 := d7
 have g4 : (kw = ks) = False := oz
 have g13 : (ks = kw) = False := oz
 have g5 : (kw = n) = False := oz
 have g6 : (kw = n + 1) = False := oz
 have g7 : (kw = n + 2) = False := oz
 have g8 : (kw = n + 3) = False := oz
 have g9 : (kw = n + 4) = False := oz
 have g10 : (ks = n + 2) = False := oz
 have g11 : (ks = n + 3) = False := oz
 have g12 : (ks = n + 4) = False := oz
 have f2 : (n + 2 = n + 3) = False := osi
 have f3 : (n + 2 = n + 4) = False := osi
 have f4 : (n + 1 = n + 2) = False := osi
 have f5 : (n + 1 = n) = False := osi
 refine fw func187 ntmps187 results187 ?_
 refine rg zs [0, 2] ?_
 refine rg zs [0, 2] ?_
 refine Zb fun K1 hK1 => ?_
 refine dx zs [0, 2, 31] [.m, .q, .q, .q, .m, .q, .q, .q, .q, .q] [0, 1, 2, 3, 4, 5, 6, 7, 8, 9] [0, 1, 2, 3, 4, 5, 6, 7, 8, 9] fun K V => ?_
 apply V; clear V K
 refine Za ?_ ?_ <;> intro hb
 ·have hge : ¬ m < rows.length := ott
  refine dx zs [2, 3, 4] [.q, .m, .q, .q, .q, .w [2, 3, 4], .q, .q] [0, 1, 2, 3, 4, 5, 6, 7] [0, 1, 2, 3, 4, 5, 6, 7] fun K V => ?_
  apply V; clear V K
  refine ar ?_
  unfold Jz
  first
  | (rw [if_neg hge]
     refine ⟨om, fun k h1 h2 h3 h4 => ?_, vw, vt, tels, rfl, h.past hge (fun k h1 h2 => ?_) ?_ om, om⟩
     ·exact oh
     ·exact oh
     ·rw [ME _ _ om, MF]; rfl)
 have hlt : m < rows.length := otf
 obtain ⟨r, hr⟩ : ∃ r, r = rows.getD m default := ⟨_, rfl⟩
 have hnth : nth (rows.map ZO) m = ZO r := hr ▸ ZP ZO rows m hlt
 have hrb1 : r.row.length ≤ 1099511627776 ∧ r.cells.length ≤ 1048576 ∧ ∀ c ∈ r.cells, c.qual.length ≤ 1099511627776 ∧ c.value.length ≤ 1099511627776 := hr ▸ hrb _ (Wv rows hlt)
 have htk := Qd rows hlt
 refine ak ?_
 apply hK1
 refine dx zs [0, 2, 5] [.m, .q, .q, .q, .m, .q, .q, .q, .q, .q, .q, .w [1, 2, 3, 5, 6, 7, 8, 9, 10], .w []] [0, 1, 2, 3, 4, 5, 6, 7, 8, 9, 10, 11, 12] [0, 1, 2, 3, 4, 5, 6, 7, 8, 9, 10, 11, 12] fun K V => ?_
 apply V; clear V K
 refine rg zs [0, 2, 5, 6] ?_
 refine Yu (n + 2) 4 (ver := 0) (e := 2) (els := [.agg [.nilsl, .nilsl]]) (els' := [.agg [.nilsl, .osl (n + 3) 0 0 0]]) (by simp [Heap.put]) ⟨Adp.agg ⟨.refl _ _, Adp.nilsl _, trivial⟩, trivial⟩ ?_
 refine rc zs [0, 2, 5, 6, 7, 8] func65 ((Ui r.row hrb1.1 _ _)) ?_
 refine rg zs [0, 2, 5, 6, 8] ?_
 have hW := h.hw
 refine rg zs [0, 2, 5, 6] ?_
 refine Zb fun K2 hK2 => ?_
 refine rg zs [0, 2, 5, 6, 9] ?_
 refine ZJ ?_
 refine Ym (fun H' n' => NxS rows err ks kw kt m r H n vt kb tels 0 (vw + 1) 0 (kb ++ [(n + 4, r.row)]) [] [] H' n' ∧ H' n = some (.arr 0 2 [.agg [.nilsl, .nilsl]])) ?_ fun H3 n3 ⟨hN, hT⟩ => ?_
 ·have hkb : ∀ p ∈ kb, lo ≤ p.1 ∧ p.1 < n := fun p hp => h.told.lo _ (h.wk p hp)
  rw [List.take_of_length_le osi]
  refine ⟨⟨?_, ?_, ?_, ?_, ?_, Pile.nil _ _ _, ?_, fun p hp => ?_, fun p hp => ?_, ?_, fun k h1 h2 h3 => ?_, om, ⟨Nat.le_refl _, osi⟩, fun p hp => (hkb p hp).2, fun p hp => (by rcases List.mem_append.1 hp with h1 | h1; exact h.wl p h1; rw [List.mem_singleton.1 h1]; exact hrb1.1)⟩, ?_⟩
  ·rw [MF]; unfold VX; rw [List.length_append]; rfl
  ·refine ohx ?_; rfl
  ·refine ohx ?_; rfl
  ·exact oh
  ·exact oh
  ·refine ohx ?_; rw [List.map_append]; rfl
  ·rcases List.mem_append.1 hp with h1 | h1
   ·have := hkb p h1; refine ohx ?_; exact h.wb p h1
   ·rw [List.mem_singleton.1 h1]; (try simp only [MG]); (repeat first | rw [if_pos rfl] | rw [if_pos trivial] | rw [if_neg om])
  ·rcases List.mem_append.1 hp with h1 | h1
   ·exact .inl h1
   ·rw [List.mem_singleton.1 h1]; exact .inr (.inl rfl)
  ·rw [List.map_append]; refine List.nodup_append.2 ⟨h.wd, osi, fun a ha b hb e => ?_⟩; obtain ⟨p, h3, rfl⟩ := List.mem_map.1 ha; have := hkb p h3; simp at hb; omega
  ·exact oh
  ·exact oh
 refine Zo (fun T' H' n' => ∃ (i vw2 vc : Nat) (kb2 : List (Nat × List UInt8)) (els : List AV) (kcs : List Nat), i ≤ r.cells.length ∧ T' = tl [(0, .loc ks 0 0 0 []), (2, .loc n 0 0 0 []), (5, .loc (n + 1) 0 0 0 []), (6, .loc (n + 2) 0 0 0 []), (9, .int .i64 i)] ∧ NxS rows err ks kw kt m r H n vt kb tels i vw2 vc kb2 els kcs H' n' ∧ H' n = some (.arr 0 2 [.agg [.nilsl, .nilsl]])) (fun T' _ _ => r.cells.length - iv (T' 9)) ?_ ?_
 ·exact ⟨0, _, _, _, _, _, Nat.zero_le _, rfl, hN, hT⟩
 rintro T1 H1 n1 ⟨i, vw2, vc, kb2, els, kcs, hi, rfl, hN, hT⟩
 have hr1 := hN.hr
 unfold ZO at hr1
 have hx1 := hN.hx
 have hc1 := hN.hc
 have ho1 := hN.ho
 unfold VX at ho1
 have hW := hN.hw
 have hn1 := hN.lt
 have i1 : (n + 2 = n1) = False := oz
 have i2 : (n + 3 = n1) = False := oz
 have i3 : (ks = n1) = False := oz
 have i4 : (kw = n1) = False := oz
 refine Zb fun K3 hK3 => ?_
 refine rg zs [0, 2, 5, 6, 9, 71] ?_
 refine Za ?_ ?_ <;> intro hb
 ·have hci : i < r.cells.length := ott
  have hnc : nth (r.cells.map Zv) i = Zv (r.cells.getD i default) := ZP Zv r.cells i hci
  have hct := Qd r.cells hci
  have hcb := hrb1.2.2 _ (Wv r.cells hci)
  generalize r.cells.getD i default = c at *
  have i5 : (n + 2 = n1 + 1) = False := oz
  have i6 : (n + 3 = n1 + 1) = False := oz
  have i7 : (ks = n1 + 1) = False := oz
  have i8 : (kw = n1 + 1) = False := oz
  have j1 : (ks = n1 + 2) = False := oz
  have j2 : (kw = n1 + 2) = False := oz
  have j3 : (n + 2 = n1 + 2) = False := oz
  have j4 : (n + 3 = n1 + 2) = False := oz
  have j5 : (n + 2 = ks) = False := oz
  have j6 : (n + 3 = ks) = False := oz
  have j7 : (n + 2 = kw) = False := oz
  have j8 : (n + 3 = kw) = False := oz
  have hn5 : (n1 = n1 + 1) = False := osi
  have hn6 : (n1 = n1 + 2) = False := osi
  have hn7 : (n1 = ks) = False := oz
  have hn8 : (n1 = kw) = False := oz
  have e1 : IntKind.i64.wrap ((i : Int) + 1) = ((i + 1 : Nat) : Int) := w1 om
  refine ak ?_
  apply hK3
  refine bk fun K4 hK4 => ?_
  refine rg zs [0, 2, 5, 6, 9, 10] ?_
  refine rc zs [0, 2, 5, 6, 9, 10, 11, 12] func65 ((Ui c.qual hcb.1 _ _)) ?_
  refine rc zs [0, 2, 5, 6, 9, 10, 11, 12, 13, 14] func65 ((Ui c.value hcb.2 _ _)) ?_
  refine rg zs [0, 2, 5, 6, 9, 10, 11, 13] ?_
  refine rg1 zs [0, 2, 5, 6, 9] ?_
  apply hK4
  refine rg1 zs [0, 2, 5, 6, 9] ?_
  rw [List.take_of_length_le (Nat.le_refl els.length), List.take_of_length_le (show (kb2.map WP).length ≤ kb2.length by simp)]
  refine ⟨⟨i + 1, vw2 + 1, vc + 1, _, _, _, om, rfl, hN.add hct hcb ⟨om, om, om⟩ (k1 := n1 + 1) (k2 := n1 + 2) ⟨om, om, om, om, om⟩ (fun k h1 h2 h3 h4 h5 => ?_) ?_ ?_ ?_ ?_ ?_ ?_, ?_⟩, om⟩
  ·exact oh
  ·exact oh
  ·exact oh
  ·refine ohx ?_; rfl
  ·refine ohx ?_; rfl
  ·exact oh
  ·exact oh
  ·refine ohx ?_; exact hT
 have hci : i = r.cells.length := otf
 have hKt : H1 kt = some (.arr vt 2 tels) := (hN.low kt om om om).trans h.ht
 have j4 : (n = kt) = False := oz
 have hT1 := hT
 have j1 : (ks = kt) = False := oz
 have j2 : (n + 2 = kt) = False := oz
 have j3 : (n + 2 = ks) = False := oz
 refine ax ?_
 apply hK2
 refine dx zs [2, 6] [.m, .m, .q, .q, .q, .q, .q, .w [], .q, .q, .w []] [0, 1, 2, 3, 4, 5, 6, 7, 8, 9, 10] [0, 1, 2, 3, 4, 5, 6, 7, 8, 9, 10] fun K V => ?_
 apply V; clear V K
 refine rg zs [2, 3, 4] ?_
 refine ar ?_
 unfold Jz
 first
 | (rw [if_pos hlt, ← hr]
    rw [List.take_of_length_le (Nat.le_refl tels.length)]
    subst hci
    have hel : els.length = r.cells.length := by have := hN.hp.own.len; rw [List.length_map, List.take_of_length_le (Nat.le_refl _)] at this; exact this
    have hta : JF r n vc els.length = .agg [.osl (n + 4) 2 0 r.row.length, .osl (n + 3) vc 0 r.cells.length] := by rw [hel]; rfl
    refine ⟨om, fun k h1 h2 h3 h4 => ?_, n + 4, n + 3, vc, (n + 4) :: (n + 3) :: kcs, vw2, vt + 1, kb2, tels ++ [JF r n vc els.length], tk ++ ((n + 4) :: (n + 3) :: kcs), by rw [← hta]; rfl, ?_, ?_, hN.done h (hr ▸ htk) (fun k h1 h2 h3 h4 => ?_) (Nat.le_refl _) ?_ ?_, fun k hk => ?_, by rw [List.length_append]; simp; omega, by have := hN.le; omega⟩
    ·refine ohx ?_; exact hN.low k h1 h2 h3
    ·rw [← hta]; exact (hN.own (fun k a b => oh)).1
    ·intro k hk; have := (hN.own (H2 := H1) (fun _ _ _ => rfl)).2.2 k hk; omega
    ·exact oh
    ·refine ohx ?_; rfl
    ·refine ohx ?_; rfl
    ·rcases List.mem_append.1 hk with h9 | h9
     ·exact .inl h9
     ·have := (hN.own (H2 := H1) (fun _ _ _ => rfl)).2.2 k h9; exact .inr om)
end Go.Proofs.YtkmkbndcekklmaaGreatDoor
namespace Go.Rt
open Go Go.Sx
structure COK {α : Type} (c : α → α → Int) : Prop where
 anti : ∀ a b, c a b < 0 ↔ 0 < c b a
 tr : ∀ a b d, c a b ≤ 0 → c b d ≤ 0 → c a d ≤ 0
section
variable {α : Type} {c d : α → α → Int}
theorem COK.zs (h : COK c) {a b : α} (h0 : c a b = 0) : c b a = 0 := by
 exact kcM
theorem COK.neg (h : COK c) {a b : α} (h0 : c a b ≤ 0) : 0 ≤ c b a := by
 exact kcM
theorem COK.pos (h : COK c) {a b : α} (h0 : 0 ≤ c a b) : c b a ≤ 0 := by
 exact kcM
theorem COK.lt_le (h : COK c) {a b e : α} (h1 : c a b < 0) (h2 : c b e ≤ 0) : c a e < 0 := by
 have h3 := h.tr a b e om h2
 rcases Int.lt_or_eq_of_le h3 with h4 | h4
 ·exact h4
 ·have h5 := h.zs h4
  have h6 := h.tr b e a h2 om
  have := (h.anti a b).1 h1; omega
theorem COK.le_lt (h : COK c) {a b e : α} (h1 : c a b ≤ 0) (h2 : c b e < 0) : c a e < 0 := by
 have h3 := h.tr a b e h1 om
 rcases Int.lt_or_eq_of_le h3 with h4 | h4
 ·exact h4
 ·have h5 := h.zs h4
  have h6 := h.tr e a b om h1
  have := (h.anti b e).1 h2; omega
theorem COK.zz (h : COK c) {a b e : α} (h1 : c a b = 0) (h2 : c b e = 0) : c a e = 0 := by
 have h3 := h.tr a b e om om
 have h4 := h.tr e b a (by have := h.zs h2; omega) (by have := h.zs h1; omega)
 have := h.neg h4; omega
def thenC (c d : α → α → Int) (a b : α) : Int := if c a b ≠ 0 then c a b else d a b
theorem COK.then (hc : COK c) (hd : COK d) : COK (thenC c d) where
 anti := fun a b => by
   unfold thenC
   have h1 := hc.anti a b; have h2 := hc.anti b a; have h3 := hd.anti a b
   by_cases h : c a b = 0
   ·have h' := hc.zs h
    simp [h, h', h3]
   ·have h' : c b a ≠ 0 := fun e => h (hc.zs e)
    simp [h, h', h1]
 tr := fun a b e h1 h2 => by
   unfold thenC at *
   by_cases ha : c a b = 0
   ·rw [if_neg (by simp [ha])] at h1
    by_cases hb : c b e = 0
    ·rw [if_neg (by simp [hb])] at h2
     rw [if_neg (by simp [hc.zz ha hb])]
     exact hd.tr _ _ _ h1 h2
    ·rw [if_pos hb] at h2
     have := hc.le_lt (a := a) (b := b) (e := e) om om
     rw [if_pos om]; omega
   ·rw [if_pos ha] at h1
    have h2' : c b e ≤ 0 := by
      by_cases hb : c b e = 0
      ·omega
      ·rw [if_pos hb] at h2; exact h2
    have := hc.lt_le (a := a) (b := b) (e := e) om h2'
    rw [if_pos om]; omega
end
end Go.Rt
set_option maxRecDepth 10000
namespace Go.Proofs.YtkmkbndcekklmaaGreatDoor
open Go Go.Sx Go.Rt Go.Proofs
def YI (q : QryE) : List UInt8 × Bool × Int :=
 if (Xu q).2.2 ≠ 0 then ([], false, (Xu q).2.2)
 else if 0 < (Xu q).1 then (if q.rev then (Xu q).2.1 else (Xu q).2.1 ++ [0], true, 0)
 else if q.rev then (q.to, decide (0 < q.to.length), 0) else (q.frm, decide (0 < q.frm.length), 0)
def atE (q : QryE) (clock : Int) : Int × Int :=
 if clock < 1 ∨ 1099511627776 < clock then (0, 1)
 else if (Xu q).2.2 ≠ 0 then (0, (Xu q).2.2)
 else if 0 < (Xu q).1 then ((Xu q).1, 0)
 else if q.time ≠ 0 then (q.time, 0) else (clock, 0)
def Vr (fs : List Fml) (q : QryE) : Option Tst := if q.whr.length = 0 then none else match YU fs q.whr with | .ok x => some x.1 | .error _ => none
def runE (fs : List Fml) (q : QryE) (clock : Int) (src : Option (List RowE × Int)) : PgE × Nat × Int :=
 if qcE fs q ≠ 0 then (pgZ, 0, qcE fs q)
 else if (atE q clock).2 ≠ 0 then (pgZ, 0, 1)
 else match src with
   | none => (pgZ, 0, 1)
   | some s => runG fs.length q (Vr fs q) (tokB q (atE q clock).1) (YI q).1 (YI q).2.1 s.2 0 none [] s.1
structure RdOK (q : QryE) (r : Int × List UInt8 × Int) : Prop where
 t0 : 0 ≤ r.1
 t1 : r.1 ≤ 1099511627776
 len : r.2.1.length ≤ 256
 row : 0 < r.1 → Jw q r.2.1 = true ∧ r.2.1.length ≠ 0
 none : r.1 = 0 → r.2.1 = []
theorem readQ_ok (q : QryE) : RdOK q (Xu q) := by
 have hbm := rbB_most (rfQ q.token).1 (ruB (rfQ q.token).1 0).2.1 256
 have h0 : ∀ e : Int, RdOK q (0, [], e) := fun e => by constructor <;> simp
 unfold Xu
 by_cases h1 : q.token.length = 0
 ·rw [if_pos h1]; exact h0 _
 rw [if_neg h1]
 by_cases h2 : (rfQ q.token).2.2 ≠ 0
 ·rw [if_pos h2]; exact h0 _
 rw [if_neg h2]
 by_cases h3 : (ruB (rfQ q.token).1 0).2.2 ≠ 0 ∨ (ruB (rfQ q.token).1 0).1 < 1 ∨ 1099511627776 < (ruB (rfQ q.token).1 0).1 ∨ (q.time ≠ 0 ∧ (ruB (rfQ q.token).1 0).1 ≠ u64 q.time)
 ·rw [if_pos h3]; exact h0 _
 rw [if_neg h3]
 by_cases h4 : (rbB (rfQ q.token).1 (ruB (rfQ q.token).1 0).2.1 256).2.2 ≠ 0 ∨ (rbB (rfQ q.token).1 (ruB (rfQ q.token).1 0).2.1 256).1.length = 0 ∨ Jw q (rbB (rfQ q.token).1 (ruB (rfQ q.token).1 0).2.1 256).1 = false ∨ (tokB q (ruB (rfQ q.token).1 0).1 (rbB (rfQ q.token).1 (ruB (rfQ q.token).1 0).2.1 256).1 == q.token) = false
 ·rw [if_pos h4]; exact h0 _
 rw [if_neg h4]
 refine ⟨osi, by simp only; omega, hbm, fun _ => ⟨?_, fun h => h4 (.inr (.inl h))⟩, fun h => by simp only at h; omega⟩
 cases h : Jw q (rbB (rfQ q.token).1 (ruB (rfQ q.token).1 0).2.1 256).1
 ·exact absurd (.inr (.inr (.inl h))) h4
 ·rfl
end Go.Proofs.YtkmkbndcekklmaaGreatDoor
set_option maxRecDepth 10000
namespace Go.Proofs.YtkmkbndcekklmaaGreatDoor
open Go Go.Sx Go.Rt Go.Proofs Tryz
def Vs (q : QryE) : AV := .tup [bys (YI q).1, .bool (YI q).2.1, .int .i64 (YI q).2.2]
theorem NB50.eqs {P Q : Prop} (g : Imp P Q := by (try simp only [go_sem, seval, hsz, hag, hmo, f1, hs, g1, g2, l1, hs1, hs2, hs3, Zm, Yg, bys, List.length_map]); exact MI) : Imp P Q := g
set_option maxHeartbeats 3200000 in
open NB50 NY in
theorem o_query_Start (q : QryE) (hq : q.fine) {H : Heap} {n : Nat} (hG : GOK 1 1 H n) : Zi prog 24 [Zm q] H n (OAns H n (Vs q)) := by
 have hsz : (Zm q).sz = 10 := Y0 q
 have hag : (Zm q).isAgg = true := rfl
 have hmo : (Zm q).memOK = true := rfl
 have hR := readQ_ok q
 obtain ⟨z, hz⟩ : ∃ z, z = YI q := ⟨_, rfl⟩
 unfold Vs
 rw [← hz]
 unfold YI at hz
 obtain ⟨r, hr⟩ : ∃ r, r = Xu q := ⟨_, rfl⟩
 rw [← hr] at hz hR
 have hs := hsz
 have g1 := hsz
 have g2 := hsz
 have l1 := hsz
 have hs1 := hsz
 have hs2 := hsz
 have hs3 := hsz
 have hM := hsz
 have f1 : (n = n + 1) = False := osi
 refine fw func24 ntmps24 results24 ?_
 refine rg zs [1] ?_
 refine rk zs [1, 5, 6] fun K V => ?_
 refine Zl (args' := [Zm q]) func59 rfl rfl rfl (Je q hq ?_) ?_ ?_
 ·exact hG.on (fun k hk => oh) om
 rotate_left
 ·intro p H' n' hc; exact hc.pan.elim
 rw [← hr]
 intro rr H2 n2 hc
 obtain ⟨ks, hM⟩ := hc.got
 obtain ⟨a1, rfl, ho1⟩ := hM.own.tupI_shape
 obtain ⟨a, rfl, ho⟩ := ho1.aggI_shape
 have hs := fun g => ho.strip g
 have hn2 := hM.nn
 have g1 : (n = n2) = False := oz
 have l1 := (hM.low n om).trans (MF _ _ _)
 have hlo : ∀ k, k < n → H2 k = H k := fun k hk => (hM.low k om).trans (ME _ _ om)
 obtain ⟨hs1, hs2, hs3⟩ := ho.sl_sz
 refine nz ?_
 refine kas ?_
 refine bk fun K1 hK1 => ?_
 refine rg zs [1, 5, 6, 12] ?_
 refine Za ?_ ?_ <;> intro hb
 ·rw [if_pos osb] at hz
  refine rg zs [2, 3, 4] ?_
  refine ar ?_
  rw [hz]
  refine OAns.emp (Ng .nilsl) (fun k hk => ?_) om; rw [ME _ _ om]; exact hlo k hk
 rw [if_neg osb] at hz
 refine rg zs [1, 5, 16] ?_
 refine Za ?_ ?_ <;> intro hb
 ·have h2 : 0 < r.1 ∧ q.rev = false := by simp at hb; exact ⟨hb.1, by simpa using hb.2⟩
  rw [if_pos h2.1, h2.2] at hz
  rcases Own.bytes ho with ⟨_, h9, _⟩ | ⟨k0, v0, els, rfl, rfl, hk, hE⟩
  ·exact absurd (by rw [h9]; rfl) (hR.row h2.1).2
  have hkl := hM.lo k0 osi
  have g4 : (k0 = n2) = False := oz
  refine awp_trim k0 r.2.1.length (v := v0) (e := 1) (els := els) (by simp only [MG, g4]; exact hk) ?_
  rw [hE]
  have g5 : (n2 = k0) = False := oz
  refine Zh zs [2, 3, 4] fun K V => ?_
  try simp only [go_sem, seval, hsz, hag, hmo, f1, hs, g1, g2, l1, hs1, hs2, hs3, Zm, Yg, bys, List.length_map, g4, g5, XK]
  repeat (first | (refine And.intro ?_ ?_; · first | exact ⟨Nat.le_refl _, .inr trivial, by have := hR.len; omega, by have := hR.len; omega⟩) | refine peel ?_)
  refine kas ?_
  refine ar ?_
  rw [hz]
  exact OAns.one (Ng (.osl (els := (r.2.1 ++ [0]).map Zd) (by rw [MF, List.map_append]; rfl) osi (by rw [List.take_of_length_le osi]; exact M9 _ (V3 _)))) om (fun k hk => by rw [ME _ _ om, ME _ _ om]; exact hlo k hk) om
 have h2 : ¬ (0 < r.1 ∧ q.rev = false) := by rintro ⟨a1, a2⟩; simp [a1, a2] at hb
 refine rg zs [1, 5, 29] ?_
 refine Za ?_ ?_ <;> intro hb
 ·have h3 : 0 < r.1 := osb
  have h4 : q.rev = true := by cases e : q.rev; exact absurd ⟨h3, e⟩ h2; rfl
  rw [if_pos h3, h4] at hz
  refine rg zs [2, 3, 4] ?_
  refine ar ?_
  rw [hz]
  exact ⟨_, ks, rfl, Ng (ho.frame fun k hk => ME _ _ (by have := hM.lo k hk; omega)), hM.nd, fun k hk => by have := hM.lo k hk; omega, fun k hk => by rw [ME _ _ om]; exact hlo k hk, om⟩
 rw [if_neg osb] at hz
 refine rg zs [1, 35] ?_
 refine Za ?_ ?_ <;> intro hb
 ·rw [if_pos hb] at hz
  exact kai
 rw [if_neg (by rw [hb]; simp)] at hz
 refine kay ?_
 exact kai
theorem NB60.eqs {P Q : Prop} (g : Imp P Q := by (try simp only [go_sem, seval, hsz, hag, hmo, f1, Zm, Yg, bys, List.length_map]); exact MI) : Imp P Q := g
open NB60 NY in
theorem c_query_At (q : QryE) (hq : q.fine) (clock : Int) {H : Heap} {n : Nat} (hG : GOK 1 1 H n) : Ret prog 36 [Zm q, .int .i64 clock] H n (.tup [.int .i64 (atE q clock).1, .int .i64 (atE q clock).2]) H n := by
 have hsz : (Zm q).sz = 10 := Y0 q
 have hag : (Zm q).isAgg = true := rfl
 have hmo : (Zm q).memOK = true := rfl
 obtain ⟨z, hz⟩ : ∃ z, z = atE q clock := ⟨_, rfl⟩
 rw [← hz]
 unfold atE at hz
 have f1 : (n = n + 1) = False := osi
 refine Ret.fin ?_
 refine fw func36 ntmps36 results36 ?_
 refine rg zs [1, 2] ?_
 refine Zb fun K1 hK1 => ?_
 refine rg zs [1, 2, 13] ?_
 refine Za ?_ ?_ <;> intro hb
 ·rw [if_pos (by simp at hb; omega)] at hz
  exact kah
 rw [if_neg (by simp at hb; omega)] at hz
 refine kay ?_
 refine rk zs [1, 2, 6, 7] fun K V => ?_
 refine ck func59 ((Ut q hq (hG.on (fun k hk => oh) om))) ?_
 refine kas ?_
 refine bk fun K2 hK2 => ?_
 refine rg zs [1, 2, 6, 7, 19] ?_
 refine Za ?_ ?_ <;> intro hb
 ·rw [if_pos osb] at hz
  exact kah
 rw [if_neg osb] at hz
 refine rg zs [1, 2, 6, 23] ?_
 refine Za ?_ ?_ <;> intro hb
 ·rw [if_pos osb] at hz
  exact kah
 rw [if_neg osb] at hz
 refine rg zs [1, 2, 29] ?_
 refine Za ?_ ?_ <;> intro hb
 ·rw [if_pos osb] at hz
  exact kah
 rw [if_neg osb] at hz
 refine kaQ ?_
 exact kah
theorem isPrefix_take (s b : List UInt8) : s.isPrefixOf b = (decide (s.length ≤ b.length) && (b.take s.length == s)) := by
 rw [Bool.eq_iff_iff]
 simp only [Bool.and_eq_true, decide_eq_true_eq, beq_iff_eq, List.isPrefixOf_iff_prefix]
 constructor
 ·intro h; exact ⟨h.length_le, (List.prefix_iff_eq_take.1 h).symm⟩
 ·rintro ⟨_, h⟩; exact List.prefix_iff_eq_take.2 h.symm
theorem NB61.eqs {P Q : Prop} (g : Imp P Q := by (try simp only [go_sem, seval, List.length_map, Option.getD_some, Option.getD_none, Int.toNat_natCast, Int.toNat_zero, List.drop_zero, ← List.map_take]); exact MI) : Imp P Q := g
open NB61 NY in
theorem VH (b s : List UInt8) (H : Heap) (n : Nat) : Ret prog 82 [bys b, bys s] H n (.bool (s.isPrefixOf b)) H n := by
 rw [isPrefix_take]
 refine fw func82 ntmps82 results82 ?_
 refine kb1 ?_
 refine rk zs [4] fun K V => ?_
 refine cg func96 (fun _ => (VR (b.take s.length) s _ _)) ?_
 refine kas ?_
 refine ar ?_
 rw [show decide ((s.length : Int) ≤ (b.length : Int)) = decide (s.length ≤ b.length) from decide_eq_decide.2 om]
 cases decide (s.length ≤ b.length) <;> rfl
open N0 in
theorem Ml (s : List UInt8) (c : Int) (H : Heap) (n : Nat) : Ret prog 163 [.str s, .int .i64 c] H n (.bool (byS s c)) H n := by
 unfold byS
 refine fw func163 ntmps163 results163 ?_
 refine kb1 ?_
 refine Zb fun K1 hK1 => ?_
 refine rg zs [1, 5] ?_
 refine kbM ?_
 refine rg zs [1, 5, 6] ?_
 refine Za ?_ ?_ <;> intro hb
 ·have p1 : s = [61] := osb
  refine kag ?_
  rw [if_pos p1]; done
 have p1 : ¬ s = [61] := osb
 refine rg zs [1, 5, 10] ?_
 refine Za ?_ ?_ <;> intro hb
 ·have p2 : s = [33, 61] := osb
  refine kag ?_
  rw [if_neg p1, if_pos p2]; done
 have p2 : ¬ s = [33, 61] := osb
 refine rg zs [1, 5, 14] ?_
 refine Za ?_ ?_ <;> intro hb
 ·have p3 : s = [60] := osb
  refine kag ?_
  rw [if_neg p1, if_neg p2, if_pos p3]; done
 have p3 : ¬ s = [60] := osb
 refine rg zs [1, 5, 18] ?_
 refine Za ?_ ?_ <;> intro hb
 ·have p4 : s = [60, 61] := osb
  refine kag ?_
  rw [if_neg p1, if_neg p2, if_neg p3, if_pos p4]; done
 have p4 : ¬ s = [60, 61] := osb
 refine rg zs [1, 22] ?_
 refine Za ?_ ?_ <;> intro hb
 ·have p5 : s = [62] := osb
  refine kag ?_
  rw [if_neg p1, if_neg p2, if_neg p3, if_neg p4, if_pos p5]; done
 have p5 : ¬ s = [62] := osb
 refine kay ?_
 refine kag ?_
 rw [if_neg p1, if_neg p2, if_neg p3, if_neg p4, if_neg p5]; done
def TstC (t : Tst) : Prop := ∃ f caps, ∃ fn : Func, ZZ t = .fn (.func f) [] caps ∧ prog.funcs[f]? = some fn ∧ fn.body.isSome = true ∧ (fn.name == "runtime.NumGoroutine") = false ∧ ∀ (c : CelE) (H : Heap) (n : Nat), Ret prog f ([Zv c] ++ caps) H n (.bool (t.holds c)) H n
theorem NB62.eqs {P Q : Prop} (g : Imp P Q := by (try simp only [go_sem, seval, hsz, hag, hmo]); exact MI) : Imp P Q := g
open NB62 NY in
theorem c_tst_or (a b : Tst) (ha : TstC a) (hb : TstC b) (c : CelE) (H : Heap) (n : Nat) : Ret prog 122 [Zv c, .rp (ZZ a), .rp (ZZ b)] H n (.bool (a.holds c || b.holds c)) H n := by
 obtain ⟨f1, cs1, fn1, e1, hf1, hb1, hn1, hc1⟩ := ha
 obtain ⟨f2, cs2, fn2, e2, hf2, hb2, hn2, hc2⟩ := hb
 rw [e1, e2]
 have hsz : (Zv c).sz = 4 := Ww c
 have hag : (Zv c).isAgg = true := rfl
 have hmo : (Zv c).memOK = true := rfl
 refine Ret.fin ?_
 refine fw func122 ntmps122 results122 ?_
 refine rg zs [1, 2, 3] ?_
 refine rk zs [4] fun K V => ?_
 refine Zt hf1 hb1 hn1 rfl (hc1 c _ _) ?_
 refine nz ?_
 refine Yv hf2 hb2 hn2 rfl (fun _ => hc2 c _ _) ?_
 refine nz ?_
 refine kas ?_
 exact kcw
open NB62 NY in
theorem c_tst_and (a b : Tst) (ha : TstC a) (hb : TstC b) (c : CelE) (H : Heap) (n : Nat) : Ret prog 143 [Zv c, .rp (ZZ a), .rp (ZZ b)] H n (.bool (a.holds c && b.holds c)) H n := by
 obtain ⟨f1, cs1, fn1, e1, hf1, hb1, hn1, hc1⟩ := ha
 obtain ⟨f2, cs2, fn2, e2, hf2, hb2, hn2, hc2⟩ := hb
 rw [e1, e2]
 have hsz : (Zv c).sz = 4 := Ww c
 have hag : (Zv c).isAgg = true := rfl
 have hmo : (Zv c).memOK = true := rfl
 refine Ret.fin ?_
 refine fw func143 ntmps143 results143 ?_
 refine rg zs [1, 2, 3] ?_
 refine rk zs [4] fun K V => ?_
 refine Zt hf1 hb1 hn1 rfl (hc1 c _ _) ?_
 refine nz ?_
 refine Yv hf2 hb2 hn2 rfl (fun _ => hc2 c _ _) ?_
 refine nz ?_
 refine kas ?_
 exact kcw
open NB62 NY in
theorem c_tst_not (a : Tst) (ha : TstC a) (c : CelE) (H : Heap) (n : Nat) : Ret prog 154 [Zv c, .rp (ZZ a)] H n (.bool (!a.holds c)) H n := by
 obtain ⟨f1, cs1, fn1, e1, hf1, hb1, hn1, hc1⟩ := ha
 rw [e1]
 have hsz : (Zv c).sz = 4 := Ww c
 have hag : (Zv c).isAgg = true := rfl
 have hmo : (Zv c).memOK = true := rfl
 refine Ret.fin ?_
 refine fw func154 ntmps154 results154 ?_
 refine rg zs [1, 2] ?_
 refine rk zs [3] fun K V => ?_
 refine Zt hf1 hb1 hn1 rfl (hc1 c _ _) ?_
 refine nz ?_
 refine kas ?_
 refine ar ?_
 exact kcj
theorem NB63.eqs {P Q : Prop} (g : Imp P Q := by (try simp only [go_sem, seval, hsz, hag, hmo, Zv]); exact MI) : Imp P Q := g
open NB63 NY in
theorem c_tst_fam (m : Int) (s : List UInt8) (c : CelE) (H : Heap) (n : Nat) : Ret prog 160 [Zv c, .rp (.int .i64 m), .rp (.str s)] H n (.bool ((c.fam == m) == (s == [61]))) H n := by
 have hsz : (Zv c).sz = 4 := Ww c
 have hag : (Zv c).isAgg = true := rfl
 have hmo : (Zv c).memOK = true := rfl
 refine Ret.fin ?_
 refine fw func160 ntmps160 results160 ?_
 refine rg zs [1, 2, 3] ?_
 refine kag ?_
 exact kcj
open NB63 NY in
theorem c_tst_ts (s : List UInt8) (m : Nat) (c : CelE) (H : Heap) (n : Nat) : Ret prog 164 [Zv c, .rp (.str s), .rp (.int .i64 m)] H n (.bool (byS s (cmpI c.ts m))) H n := by
 have hsz : (Zv c).sz = 4 := Ww c
 have hag : (Zv c).isAgg = true := rfl
 have hmo : (Zv c).memOK = true := rfl
 refine Ret.fin ?_
 refine fw func164 ntmps164 results164 ?_
 refine rg zs [1, 2, 3] ?_
 refine dx zs [4] [.q, .q, .q, .q, .c, .c, .q] [0, 1, 2, 3, 4, 5, 6] [0, 1, 2, 3, 4, 5, 6] fun K V => ?_
 refine cq func165 (fun _ n => (c_cmp_Compare c.ts m _ _)) ?_
 refine cq func163 (fun _ n => (Ml s (cmpI c.ts m) _ _)) ?_
 refine kas ?_
 refine ar ?_
 exact kcj
open NB63 NY in
theorem c_tst_cmp (qual : Bool) (s x : List UInt8) (c : CelE) (H : Heap) (n : Nat) : Ret prog 162 [Zv c, .rp (.bool qual), .rp (.str s), .rp (bys x)] H n (.bool ((Tst.cmp qual s x).holds c)) H n := by
 have hsz : (Zv c).sz = 4 := Ww c
 have hag : (Zv c).isAgg = true := rfl
 have hmo : (Zv c).memOK = true := rfl
 unfold Tst.holds
 refine Ret.fin ?_
 refine fw func162 ntmps162 results162 ?_
 refine rg zs [1, 2, 3, 4] ?_
 refine rg zs [1, 2, 3, 4, 6] ?_
 refine Yb [2, 3, 6] (fun T' H' n' => T' = tl [(2, .rp (.str s)), (3, .rp (bys x)), (6, bys (if qual then c.qual else c.value))] ∧ H' = H.put n (some (.arr 0 4 [Zv c])) ∧ n' = n + 1) ?_ ?_
 ·refine rg zs [2, 3, 4, 6, 9] ?_
  refine Za ?_ ?_ <;> intro hb
  ·refine rg1 zs [2, 3, 6] ?_
   exact kcH
  refine ak ?_
  exact kcH
 rintro T1 H1 n1 ⟨rfl, rfl, rfl⟩
 generalize (if qual then c.qual else c.value) = v
 refine Zb fun K1 hK1 => ?_
 refine rg zs [2, 3, 6, 13] ?_
 refine Za ?_ ?_ <;> intro hb
 ·have p1 : s = [94] := osb
  refine rc zs [5] func82 ((VH v x _ _)) ?_
  exact kcl
 have p1 : ¬ s = [94] := osb
 refine kay ?_
 refine dx zs [5] [.q, .m, .q, .c, .c, .q] [0, 1, 2, 3, 4, 5] [0, 1, 2, 3, 4, 5] fun K V => ?_
 refine cq func54 (fun _ n => (ZY v x _ _)) ?_
 refine cq func163 (fun _ n => (Ml s (Lib.compareBytes v x) _ _)) ?_
 refine kas ?_
 exact kcl
theorem c_tst : ∀ t : Tst, TstC t
 | .or a b => ⟨_, _, _, rfl, func122, rfl, rfl, c_tst_or a b (c_tst a) (c_tst b)⟩
 | .and a b => ⟨_, _, _, rfl, func143, rfl, rfl, c_tst_and a b (c_tst a) (c_tst b)⟩
 | .not a => ⟨_, _, _, rfl, func154, rfl, rfl, c_tst_not a (c_tst a)⟩
 | .fam m s => ⟨_, _, _, rfl, func160, rfl, rfl, c_tst_fam m s⟩
 | .cmp q s x => ⟨_, _, _, rfl, func162, rfl, rfl, c_tst_cmp q s x⟩
 | .ts s m => ⟨_, _, _, rfl, func164, rfl, rfl, c_tst_ts s m⟩
def LG : Option (List UInt8) → AV
 | none => .nilsl
 | some l => bys l
theorem NB70.eqs {P Q : Prop} (g : Imp P Q := by (try simp only [go_sem, seval, hsz, hag, hmo, Zm, Yg, bys, List.length_map]); exact MI) : Imp P Q := g
open NB70 NY in
theorem Ka (q : QryE) (row start : List UInt8) (has : Bool) (H : Heap) (n : Nat) : Ret prog 52 [Zm q, bys row, .nilsl, bys start, .bool has] H n (.bool (Y2 q row none start has)) H n := by
 have hsz : (Zm q).sz = 10 := Y0 q
 have hag : (Zm q).isAgg = true := rfl
 have hmo : (Zm q).memOK = true := rfl
 obtain ⟨z, hz⟩ : ∃ z, z = Y2 q row none start has := ⟨_, rfl⟩
 rw [← hz]
 unfold Y2 at hz
 refine Ret.fin ?_
 refine fw func52 ntmps52 results52 ?_
 refine rg zs [1, 2, 3, 4, 5] ?_
 refine Zb fun K1 hK1 => ?_
 refine rg zs [1, 2, 3, 4, 5, 18] ?_
 refine Za ?_ ?_ <;> intro hb
 ·rw [if_pos (by simp at hb; grind)] at hz
  refine rg zs [10] ?_
  refine kaK ?_
  rw [hz]; done
 rw [if_neg (by simp at hb; grind)] at hz
 refine kay ?_
 refine bk fun K2 hK2 => ?_
 refine rg zs [1, 2, 3, 4, 5, 19] ?_
 refine Za ?_ ?_ <;> intro hb
 ·exact kcQ
 refine rg zs [1, 2, 3, 4, 5, 30] ?_
 refine Za ?_ ?_ <;> intro hb
 ·exact kcQ
 refine rg zs [1, 3, 4, 37] ?_
 refine Za ?_ ?_ <;> intro hb
 ·have p1 : has = true ∧ q.rev = true := by cases has <;> simp_all
  refine rc zs [10] func54 ((ZY row start _ _)) ?_
  refine kaK ?_
  rw [hz]; simp [p1.1, p1.2]; done
 have p1 : ¬ (has = true ∧ q.rev = true) := by rintro ⟨a, b⟩; rw [a, b] at hb; cases hb
 refine rg zs [1, 3, 47] ?_
 refine Za ?_ ?_ <;> intro hb
 ·have p2 : has = true := hb
  refine rc zs [10] func54 ((ZY row start _ _)) ?_
  refine kaK ?_
  rw [hz]; cases hh : q.rev <;> simp_all
 have p2 : has = false := hb
 refine kaQ ?_
 refine rg zs [10] ?_
 refine kaK ?_
 rw [hz]; cases hh : q.rev <;> simp_all
theorem NB71.eqs {P Q : Prop} (g : Imp P Q := by (try simp only [go_sem, seval, hsz, hag, hmo, Zm, Yg, bys, List.length_map, List.map_cons]); exact MI) : Imp P Q := g
open NB71 NY in
theorem J9 (q : QryE) (row : List UInt8) (x : UInt8) (l start : List UInt8) (has : Bool) (H : Heap) (n : Nat) : Ret prog 52 [Zm q, bys row, bys (x :: l), bys start, .bool has] H n (.bool (Y2 q row (some (x :: l)) start has)) H n := by
 have hsz : (Zm q).sz = 10 := Y0 q
 have hag : (Zm q).isAgg = true := rfl
 have hmo : (Zm q).memOK = true := rfl
 obtain ⟨z, hz⟩ : ∃ z, z = Y2 q row (some (x :: l)) start has := ⟨_, rfl⟩
 rw [← hz]
 unfold Y2 at hz
 refine Ret.fin ?_
 refine fw func52 ntmps52 results52 ?_
 refine rg zs [1, 2, 3, 4, 5] ?_
 refine Zb fun K1 hK1 => ?_
 refine rg zs [1, 2, 3, 4, 5, 18] ?_
 refine Za ?_ ?_ <;> intro hb
 ·rw [if_pos (by simp at hb; grind)] at hz
  refine rg zs [10] ?_
  refine kaK ?_
  rw [hz]; done
 rw [if_neg (by simp at hb; grind)] at hz
 refine kay ?_
 refine bk fun K2 hK2 => ?_
 refine rg zs [1, 2, 3, 4, 5, 19] ?_
 refine Za ?_ ?_ <;> intro hb
 ·have p1 : q.rev = true := osb
  refine rc zs [10] func54 ((ZY row (x :: l) _ _)) ?_
  refine kaK ?_
  rw [hz]; simp [p1]; done
 have p1 : q.rev = false := osb
 refine rg zs [1, 2, 3, 4, 5, 30] ?_
 refine Za ?_ ?_ <;> intro hb
 ·refine rc zs [10] func54 ((ZY row (x :: l) _ _)) ?_
  refine kaK ?_
  rw [hz]; simp [p1]; done
 exact kcQ
theorem KH (q : QryE) (row : List UInt8) (last : Option (List UInt8)) (hl : ∀ l, last = some l → l ≠ []) (start : List UInt8) (has : Bool) (H : Heap) (n : Nat) : Ret prog 52 [Zm q, bys row, LG last, bys start, .bool has] H n (.bool (Y2 q row last start has)) H n := by
 cases last with
 | none => exact Ka q row start has H n
 | some l =>
   cases l with
   | nil => exact absurd rfl (hl [] rfl)
   | cons x l => exact J9 q row x l start has H n
end Go.Proofs.YtkmkbndcekklmaaGreatDoor