/- Own layer: walks through facts, terms and conditions of a condition. Of the program; no condition. -/
import Derived.Test.YtifnhpmeoogedaaGreatDoorPK
import Derived.Test.YtifnhpmeoogedaaGreatDoorPJ
import Derived.Test.YtifnhpmeoogedaaGreatDoorPD
import Derived.Test.YtifnhpmeoogedaaGreatDoorPG
import Derived.Test.YtifnhpmeoogedaaGreatDoorPF
import Derived.Test.YtifnhpmeoogedaaGreatDoorPE
set_option linter.unusedSimpArgs false
set_option linter.unusedVariables false
namespace Go.Proofs.YtifnhpmeoogedaaGreatDoor
open Go Go.Sx Go.Rt Go.Proofs Tryz
theorem XJ (a : Tst) : (YZ a).sz = 1 := by cases a <;> rfl
theorem XQ (a : Tst) : (YZ a).memOK = true := by cases a <;> rfl
theorem Ud (a : Tst) : (YZ a).isAgg = false := by cases a <;> rfl
theorem Y9 (g : Bool) (a : Tst) : strip g (YZ a) = YZ a := by cases a <;> cases g <;> rfl
section
variable (fs : List Fml) (t : List UInt8) (kr ko : Nat)
def CondK (f : Nat) : Prop := ∀ (s : Qst) (ver : Nat) (H : Heap) (n : Nat), QI t s → 4 * s.m t + 3 ≤ f → QdH fs t kr ko s ver H n →
 Zx prog 162 [.loc kr 0 0 0 []] H n (QdK fs t kr ko H n ((Kw fs t f s).map fun x => (YZ x.1, x.2)))
def TermK (f : Nat) : Prop := ∀ (s : Qst) (ver : Nat) (H : Heap) (n : Nat), QI t s → 4 * s.m t + 2 ≤ f → QdH fs t kr ko s ver H n →
 Zx prog 185 [.loc kr 0 0 0 []] H n (QdK fs t kr ko H n ((Kl fs t f s).map fun x => (YZ x.1, x.2)))
def FactK (f : Nat) : Prop := ∀ (s : Qst) (ver : Nat) (H : Heap) (n : Nat), QI t s → 4 * s.m t + 1 ≤ f → QdH fs t kr ko s ver H n →
 Zx prog 198 [.loc kr 0 0 0 []] H n (QdK fs t kr ko H n ((Jt fs t f s).map fun x => (YZ x.1, x.2)))
end
set_option maxHeartbeats 1600000 in
theorem c_query_fact {fs : List Fml} (hfs : fs.length ≤ 1048576) {t : List UInt8} (ht : t.length ≤ 512) {kr ko : Nat} {f : Nat} (hF : FactK fs t kr ko f) (hC : CondK fs t kr ko f) : FactK fs t kr ko (f + 1) := fun s ver H n hI hm h => by
 have hR := h.r
 have hR1 := hR
 unfold qdO at hR1
 have hk := h.lr
 have hko := h.lo
 have hne := h.ne
 have hszs : (Zt fs).sz = 1 := rfl
 have hszb : ∀ b, (bys b).sz = 1 := fun _ => rfl
 have g1 : (kr = n) = False := by simp; omega
 have g2 : (n = kr) = False := by simp; omega
 have hx := hszs
 obtain ⟨r, hr⟩ : ∃ r, r = ((Jt fs t (f + 1) s).map fun x => (YZ x.1, x.2)) := ⟨_, rfl⟩
 rw [← hr]
 simp only [Jt] at hr
 refine QdK.fin hk hko hne ?_
 refine Zc func198 rfl ntmps198 (congrArg Array.toList results198) (by simp) ?_
 simp only [go_sem]
 refine Za zs [0] fun K Y => ?_
 simp only [go_sem, seval]
 apply Y; clear Y K
 refine Zb fun K1 hK1 => ?_
 refine Zj ?_
 refine Za zs [0, 5] fun K Y => ?_
 simp only [go_sem, seval]
 refine Zg func186 rfl rfl rfl ((Xr fs t s kr ko ver wNot _ _ hR)) ?_
 simp only [go_sem, seval]
 apply Y; clear Y K
 refine Ze ?_ ?_ <;> intro hb
 ·simp only [if_pos hb] at hr
  refine Za zs [0] fun K Y => ?_
  simp only [go_sem, seval]
  refine Zi (args' := [.loc kr 0 0 0 []]) func203 rfl rfl rfl (JB fs t s kr ko ver ht hI.far (hI.outs ht) (by have := hI.deep; omega) _ _ h) ?_ ?_
  rotate_left
  ·rintro q9 H' n' hc
   exact hc.up (fun p9 he => by rw [Yu he] at hr; exact hr) (Nat.le_refl _) (fun k _ _ _ => rfl)
  rintro rr H1 n9 hc
  obtain ⟨x1, v1, he, h1, rfl, hl1⟩ := hc.got hk hko hne
  obtain ⟨_, hx1, hy⟩ := map_ok he
  cases hy
  obtain ⟨hI1, hm1, hd1⟩ := Jk ht hI (Y1 hb) hx1
  simp only [hx1, Xb] at hr
  apply Y; clear Y K
  refine Za zs [0, 3] fun K Y => ?_
  simp only [go_sem, seval]
  refine Zi (args' := [.loc kr 0 0 0 []]) func198 rfl rfl rfl (hF x1 v1 _ _ hI1 (by omega) h1) ?_ ?_
  rotate_left
  ·rintro q9 H' n' hc
   exact hc.up (fun p9 he => by rw [Yu he] at hr; exact hr) (Nat.le_refl _) (fun k _ e2 e3 => hl1 k e2 e3)
  rintro rr H2 n9 hc
  obtain ⟨_, v2, he, h2, rfl, hl2⟩ := hc.got hk hko hne
  obtain ⟨x2, hx2, hy⟩ := map_ok he
  cases hy
  have hg2 := (Va ht f).2.2.2.2 x1 x2.1 x2.2 hI1 hx2
  simp only [hx2, QW] at hr
  have hR1 := h2.r
  unfold qdO at hR1
  have hx : IntKind.i64.wrap ((x2.2.deep : Int) - 1) = ((x2.2.deep - 1 : Nat) : Int) := by have e1 := hg2.2.2; have e2 := hI.deep; rw [w64 (by omega) (by omega)]; omega
  simp only [go_sem, seval, XJ, XQ]
  apply Y; clear Y K
  refine Za zs [3] fun K Y => ?_
  simp only [go_sem, seval, hR1, wdAV, g1, hx]
  apply Y; clear Y K
  refine Za zs [2] fun K Y => ?_
  simp only [go_sem, seval]
  apply Y; clear Y K
  refine Zf ?_
  simp only [go_sem, seval]
  exact QdE.ok (s := { x2.2 with deep := x2.2.deep - 1 }) hr ⟨hk, hko, hne, MG _ _ _, by rw [ME _ _ hne.symm, ME _ _ (by omega)]; exact h2.o⟩ hko (fun k e1 e2 e3 => by rw [ME _ _ e2, ME _ _ (by omega), hl2 k e2 e3]; exact hl1 k e2 e3) (.fn .nil (.cons (Wi ((ME _ _ (by omega)).trans (MG _ _ _)) (by omega) (.kl (Xc _ _))) .nil))
 rw [if_neg (by rw [hb]; simp)] at hr
 refine Za zs [0, 20] fun K Y => ?_
 simp only [go_sem, seval]
 refine Zg func186 rfl rfl rfl ((Xr fs t s kr ko ver [40] _ _ hR)) ?_
 simp only [go_sem, seval]
 apply Y; clear Y K
 refine Ze ?_ ?_ <;> intro hb
 ·simp only [if_pos hb] at hr
  refine Za zs [0] fun K Y => ?_
  simp only [go_sem, seval]
  refine Zi (args' := [.loc kr 0 0 0 []]) func203 rfl rfl rfl (JB fs t s kr ko ver ht hI.far (hI.outs ht) (by have := hI.deep; omega) _ _ h) ?_ ?_
  rotate_left
  ·rintro q9 H' n' hc
   exact hc.up (fun p9 he => by rw [Yu he] at hr; exact hr) (Nat.le_refl _) (fun k _ _ _ => rfl)
  rintro rr H1 n9 hc
  obtain ⟨x1, v1, he, h1, rfl, hl1⟩ := hc.got hk hko hne
  obtain ⟨_, hx1, hy⟩ := map_ok he
  cases hy
  obtain ⟨hI1, hm1, hd1⟩ := Jk ht hI (Y1 hb) hx1
  simp only [hx1, Xb] at hr
  apply Y; clear Y K
  refine Za zs [0, 4] fun K Y => ?_
  simp only [go_sem, seval]
  refine Zi (args' := [.loc kr 0 0 0 []]) func162 rfl rfl rfl (hC x1 v1 _ _ hI1 (by omega) h1) ?_ ?_
  rotate_left
  ·rintro q9 H' n' hc
   exact hc.up (fun p9 he => by rw [Yu he] at hr; exact hr) (Nat.le_refl _) (fun k _ e2 e3 => hl1 k e2 e3)
  rintro rr H2 n9 hc
  obtain ⟨_, v2, he, h2, rfl, hl2⟩ := hc.got hk hko hne
  obtain ⟨x2, hx2, hy⟩ := map_ok he
  cases hy
  have hg2 := (Va ht f).1 x1 x2.1 x2.2 hI1 hx2
  simp only [hx2, Xb] at hr
  have hR1 := h2.r
  unfold qdO at hR1
  have hx : IntKind.i64.wrap ((x2.2.deep : Int) - 1) = ((x2.2.deep - 1 : Nat) : Int) := by have e1 := hg2.2.2; have e2 := hI.deep; rw [w64 (by omega) (by omega)]; omega
  simp only [go_sem, seval, Y9]
  apply Y; clear Y K
  refine Za zs [0, 4] fun K Y => ?_
  simp only [go_sem, seval, hR1, wdAV, hx]
  apply Y; clear Y K
  refine Zb fun K2 hK2 => ?_
  refine Za zs [0, 4, 36] fun K Y => ?_
  simp only [go_sem, seval]
  refine Zg func186 rfl rfl rfl ((Xr fs t { x2.2 with deep := x2.2.deep - 1 } kr ko v2 [41] _ _ (MG _ _ _))) ?_
  simp only [go_sem, seval]
  apply Y; clear Y K
  refine Ze ?_ ?_ <;> intro hb
  ·have hb1 : isF { x2.2 with deep := x2.2.deep - 1 } [41] = false := by simpa using hb
   rw [if_neg (by show ¬ isF { x2.2 with deep := x2.2.deep - 1 } [41] = true; rw [hb1]; simp), er_map] at hr
   refine Zl zs [0, 4] fun K Y => ?_
   simp only [go_sem, seval]
   refine Zi (args' := [.int .i64 x2.2.nxt.pos]) func163 rfl rfl rfl (Yq x2.2.nxt.pos _ _) ?_ ?_
   ·rintro rr H' n' ⟨rfl, rfl, hz⟩
    cases hz
   rintro q9 H' n' ⟨rfl, rfl, hz⟩
   cases hz
   exact QdE.err hr (Nat.le_refl _) (fun k e1 e2 e3 => by rw [ME _ _ e2, hl2 k e2 e3]; exact hl1 k e2 e3)
  have hb1 : isF { x2.2 with deep := x2.2.deep - 1 } [41] = true := by simpa using hb
  rw [if_pos (show isF x2.2 [41] = true from hb1)] at hr
  refine Zd ?_
  simp only [go_sem, seval]
  apply hK2
  clear hK2 K2
  refine Za zs [4] fun K Y => ?_
  simp only [go_sem, seval]
  refine Zi (args' := [.loc kr 0 0 0 []]) func187 rfl rfl rfl (YI fs t { x2.2 with deep := x2.2.deep - 1 } kr ko v2 ht hg2.1.far (hg2.1.outs ht) _ _ ?_) ?_ ?_
  ·exact ⟨hk, hko, hne, MG _ _ _, by rw [ME _ _ hne.symm]; exact h2.o⟩
  rotate_left
  ·rintro q9 H' n' hc
   exact hc.up (fun p9 he => by rw [Yu he] at hr; exact hr) (Nat.le_refl _) (fun k e1 e2 e3 => by rw [ME _ _ e2, hl2 k e2 e3]; exact hl1 k e2 e3)
  rintro rr H3 n9 hc
  obtain ⟨_, v3, he, h3, rfl, hl3⟩ := hc.got hk hko hne
  obtain ⟨x3, hx3, hy⟩ := map_ok he
  cases hy
  simp only [hx3, QW] at hr
  apply Y; clear Y K
  refine Za zs [2] fun K Y => ?_
  simp only [go_sem, seval, Y9]
  apply Y; clear Y K
  refine Zf ?_
  simp only [go_sem, seval]
  exact QdE.ok hr h3 hko (fun k e1 e2 e3 => by rw [hl3 k e2 e3, ME _ _ e2, hl2 k e2 e3]; exact hl1 k e2 e3) (.kl (Xc _ _))
 rw [if_neg (by rw [hb]; simp)] at hr
 refine Zd ?_
 simp only [go_sem, seval]
 apply hK1
 clear hK1 K1
 refine Za zs [2] fun K Y => ?_
 simp only [go_sem, seval]
 refine Zi (args' := [.loc kr 0 0 0 []]) func205 rfl rfl rfl (c_query_test fs hfs t s kr ko ver ht hI _ _ h) ?_ ?_
 rotate_left
 ·rintro q9 H' n' hc
  exact hc.up (fun p9 he => by rw [he] at hr; exact hr) (Nat.le_refl _) (fun k _ _ _ => rfl)
 rintro rr H1 n9 hc
 obtain ⟨s4, v1, he, h1, rfl, hl1⟩ := hc.got hk hko hne
 rw [he] at hr
 obtain ⟨x4, hx4, hy⟩ := map_ok he
 cases hy
 simp only [go_sem, seval, Y9]
 apply Y; clear Y K
 refine Zf ?_
 simp only [go_sem, seval]
 exact QdE.ok hr h1 hko (fun k e1 e2 e3 => hl1 k e2 e3) (.kl (Xc _ _))
set_option maxHeartbeats 1600000 in
theorem c_query_term {fs : List Fml} {t : List UInt8} (ht : t.length ≤ 512) {kr ko : Nat} : ∀ {f : Nat}, (∀ g, g < f → FactK fs t kr ko g) → TermK fs t kr ko f := fun {f} hF s ver H n hI hm h => by
 obtain ⟨f, rfl⟩ : ∃ q, f = q + 1 := ⟨f - 1, by omega⟩
 have hR := h.r
 have hR1 := hR
 unfold qdO at hR1
 have hk := h.lr
 have hko := h.lo
 have hne := h.ne
 have hszs : (Zt fs).sz = 1 := rfl
 have hszb : ∀ b, (bys b).sz = 1 := fun _ => rfl
 have hav1 := hszs
 have hav2 := hszs
 have hav3 := hszs
 have hav4 := hszs
 obtain ⟨r, hr⟩ : ∃ r, r = ((Kl fs t (f + 1) s).map fun x => (YZ x.1, x.2)) := ⟨_, rfl⟩
 rw [← hr]
 simp only [Kl] at hr
 refine QdK.fin hk hko hne ?_
 refine Zc func185 rfl ntmps185 (congrArg Array.toList results185) (by simp) ?_
 simp only [go_sem]
 refine Za zs [0] fun K Y => ?_
 simp only [go_sem, seval]
 apply Y; clear Y K
 refine Za zs [0, 3] fun K Y => ?_
 simp only [go_sem, seval]
 refine Zi (args' := [.loc kr 0 0 0 []]) func198 rfl rfl rfl (hF f (by omega) s ver _ _ hI (by omega) h) ?_ ?_
 rotate_left
 ·rintro q9 H' n' hc
  exact hc.up (fun p9 he => by rw [Yu he] at hr; exact hr) (Nat.le_refl _) (fun k _ _ _ => rfl)
 rintro rr H1 n9 hc
 obtain ⟨_, v1, he, h1, rfl, hl1⟩ := hc.got hk hko hne
 obtain ⟨x1, hx1, hy⟩ := map_ok he
 cases hy
 have hg1 := (Va ht f).2.2.2.2 s x1.1 x1.2 hI hx1
 have hm1 := hg1.2.1
 simp only [hx1, Xb] at hr
 simp only [go_sem, seval, Y9]
 apply Y; clear Y K
 refine Zb fun K1 hK1 => ?_
 refine Zj ?_
 refine Zz (fun T' H' n' => ∃ (g : Nat) (b : Tst) (s1 : Qst) (v1 : Nat) (av : AV) (j : Nat), r = (Mv fs t g b s1).map (fun x => (YZ x.1, x.2)) ∧ 4 * s1.m t + 1 ≤ g ∧ g ≤ f ∧ QI t s1 ∧ T' = tl [(0, .loc kr 0 0 0 []), (3, av)] ∧ QdH fs t kr ko s1 v1 H' n' ∧ (∀ H2 : Heap, (∀ k, n ≤ k → k < n' → H2 k = H' k) → Frz H2 n av (YZ b)) ∧ (av.sz = 1 ∧ av.memOK = true ∧ av.isAgg = false ∧ ∀ g, strip g av = av) ∧ (∀ k, k < n → k ≠ kr → k ≠ ko → H' k = H k) ∧ n' = n + 2 * j ∧ j + s1.m t ≤ s.m t) (fun _ _ n' => 2 * s.m t + n + 2 - n') ?_ ?_
 ·exact ⟨f, x1.1, x1.2, v1, YZ x1.1, 0, hr, by omega, by omega, hg1.1, rfl, h1, fun _ _ => .kl (Xc _ _), ⟨XJ _, XQ _, Ud _, fun g => Y9 g _⟩, fun k e1 e2 e3 => hl1 k e2 e3, rfl, by omega⟩
 intro T1 H1 n1
 rintro ⟨g, b, s1, v1, av, j, hr, hmg, hgf, hI1, rfl, hQ, hfz, ⟨hav1, hav2, hav3, hav4⟩, hlow, rfl, hj⟩
 obtain ⟨g, rfl⟩ : ∃ q, g = q + 1 := ⟨g - 1, by omega⟩
 simp only [Mv] at hr
 have g1 : (n + 2 * j = n + 2 * j + 1) = False := by simp
 have g2 : (n + 2 * j + 1 = n + 2 * j) = False := by simp
 refine Zb fun K2 hK2 => ?_
 refine Za zs [0, 3, 9] fun K Y => ?_
 simp only [go_sem, seval]
 refine Zg func186 rfl rfl rfl ((Xr fs t s1 kr ko v1 wAnd _ _ hQ.r)) ?_
 apply Y; clear Y K
 refine Ze ?_ ?_ <;> intro hb
 ·rw [if_pos hb] at hr
  refine Zd ?_
  simp only [go_sem, seval]
  apply hK2
  clear hK2 K2
  refine Zj ?_
  refine Za zs [0, 3] fun K Y => ?_
  simp only [go_sem, seval]
  refine Zi (args' := [.loc kr 0 0 0 []]) func187 rfl rfl rfl (YI fs t s1 kr ko v1 ht hI1.far (hI1.outs ht) _ _ hQ) ?_ ?_
  rotate_left
  ·rintro q9 H' n' hc
   exact hc.up (fun p9 he => by rw [Yu he] at hr; exact hr) (by omega) hlow
  rintro rr H2 n9 hc
  obtain ⟨_, v2, he, h2, rfl, hl2⟩ := hc.got (by omega) (by omega) hne
  obtain ⟨x2, hx2, hy⟩ := map_ok he
  cases hy
  have ht2 := YT ht hI1 (Y1 hb) (w := x2.1) (s' := x2.2) hx2
  have hI2 := ht2.1.1
  have hm2 := ht2.2.1
  simp only [hx2, Xb] at hr
  apply Y; clear Y K
  refine Za zs [0, 4, 5] fun K Y => ?_
  simp only [go_sem, seval, hav1, hav2, hav4]
  refine Zi (args' := [.loc kr 0 0 0 []]) func198 rfl rfl rfl (hF g (by omega) x2.2 v2 _ _ hI2 (by omega) h2) ?_ ?_
  rotate_left
  ·rintro q9 H' n' hc
   exact hc.up (fun p9 he => by rw [Yu he] at hr; exact hr) (by omega) (fun k e1 e2 e3 => (hl2 k e2 e3).trans (hlow k e1 e2 e3))
  rintro rr H3 n9 hc
  obtain ⟨_, v3, he, h3, rfl, hl3⟩ := hc.got (by omega) (by omega) hne
  obtain ⟨x3, hx3, hy⟩ := map_ok he
  cases hy
  have hg3 := (Va ht g).2.2.2.2 x2.2 x3.1 x3.2 hI2 hx3
  have hm3 := hg3.2.1
  simp only [hx3, Xb] at hr
  simp only [go_sem, seval, XJ, XQ]
  apply Y; clear Y K
  refine Zl zs [0, 3] fun K Y => ?_
  simp only [go_sem, seval]
  apply Y; clear Y K
  simp only [go_sem, seval]
  refine ⟨⟨g, .and b x3.1, x3.2, v3, _, j + 1, hr, by omega, by omega, hg3.1, rfl, ?_, ?_, ⟨rfl, rfl, rfl, fun g => by cases g <;> rfl⟩, ?_, by omega, by omega⟩, by omega⟩
  ·exact h3.low (fun k hk9 => by simp only [MF]; (repeat rw [if_neg (by omega)])) (by omega)
  ·intro H4 hag
   have hb1 : H4 (n + 2 * j) = some (.arr 0 1 [av]) := (hag _ (by omega) (by omega)).trans (by (try simp only [MF]); simp)
   have hb2 : H4 (n + 2 * j + 1) = some (.arr 0 1 [YZ x3.1]) := (hag _ (by omega) (by omega)).trans (by (try simp only [MF]); simp)
   exact .fn .nil (.cons (Wi hb1 (by omega) (hfz H4 fun k a1 a2 => (hag k a1 (by omega)).trans (by (try simp only [MF]); (repeat rw [if_neg (by omega)]); rw [hl3 k (by omega) (by omega)]; exact hl2 k (by omega) (by omega)))) (.cons (Wi hb2 (by omega) (.kl (Xc _ _))) .nil))
  ·intro k e1 e2 e3
   (repeat rw [if_neg (by omega)])
   rw [hl3 k e2 e3, hl2 k e2 e3]; exact hlow k e1 e2 e3
 rw [if_neg (by rw [hb]; simp), QW] at hr
 refine ZA ?_
 simp only [go_sem, seval]
 apply hK1
 refine Za zs [2] fun K Y => ?_
 simp only [go_sem, seval, hav4]
 apply Y; clear Y K
 refine Zf ?_
 simp only [go_sem, seval]
 exact QdE.ok hr hQ hko hlow (hfz _ (fun _ _ _ => rfl))
set_option maxHeartbeats 1600000 in
theorem c_query_cond {fs : List Fml} {t : List UInt8} (ht : t.length ≤ 512) {kr ko : Nat} : ∀ {f : Nat}, (∀ g, g < f → TermK fs t kr ko g) → CondK fs t kr ko f := fun {f} hF s ver H n hI hm h => by
 obtain ⟨f, rfl⟩ : ∃ q, f = q + 1 := ⟨f - 1, by omega⟩
 have hR := h.r
 have hR1 := hR
 unfold qdO at hR1
 have hk := h.lr
 have hko := h.lo
 have hne := h.ne
 have hszs : (Zt fs).sz = 1 := rfl
 have hszb : ∀ b, (bys b).sz = 1 := fun _ => rfl
 have hav1 := hszs
 have hav2 := hszs
 have hav3 := hszs
 have hav4 := hszs
 obtain ⟨r, hr⟩ : ∃ r, r = ((Kw fs t (f + 1) s).map fun x => (YZ x.1, x.2)) := ⟨_, rfl⟩
 rw [← hr]
 simp only [Kw] at hr
 refine QdK.fin hk hko hne ?_
 refine Zc func162 rfl ntmps162 (congrArg Array.toList results162) (by simp) ?_
 simp only [go_sem]
 refine Za zs [0] fun K Y => ?_
 simp only [go_sem, seval]
 apply Y; clear Y K
 refine Za zs [0, 3] fun K Y => ?_
 simp only [go_sem, seval]
 refine Zi (args' := [.loc kr 0 0 0 []]) func185 rfl rfl rfl (hF f (by omega) s ver _ _ hI (by omega) h) ?_ ?_
 rotate_left
 ·rintro q9 H' n' hc
  exact hc.up (fun p9 he => by rw [Yu he] at hr; exact hr) (Nat.le_refl _) (fun k _ _ _ => rfl)
 rintro rr H1 n9 hc
 obtain ⟨_, v1, he, h1, rfl, hl1⟩ := hc.got hk hko hne
 obtain ⟨x1, hx1, hy⟩ := map_ok he
 cases hy
 have hg1 := (Va ht f).2.2.1 s x1.1 x1.2 hI hx1
 have hm1 := hg1.2.1
 simp only [hx1, Xb] at hr
 simp only [go_sem, seval, Y9]
 apply Y; clear Y K
 refine Zb fun K1 hK1 => ?_
 refine Zj ?_
 refine Zz (fun T' H' n' => ∃ (g : Nat) (b : Tst) (s1 : Qst) (v1 : Nat) (av : AV) (j : Nat), r = (orsF fs t g b s1).map (fun x => (YZ x.1, x.2)) ∧ 4 * s1.m t + 2 ≤ g ∧ g ≤ f ∧ QI t s1 ∧ T' = tl [(0, .loc kr 0 0 0 []), (3, av)] ∧ QdH fs t kr ko s1 v1 H' n' ∧ (∀ H2 : Heap, (∀ k, n ≤ k → k < n' → H2 k = H' k) → Frz H2 n av (YZ b)) ∧ (av.sz = 1 ∧ av.memOK = true ∧ av.isAgg = false ∧ ∀ g, strip g av = av) ∧ (∀ k, k < n → k ≠ kr → k ≠ ko → H' k = H k) ∧ n' = n + 2 * j ∧ j + s1.m t ≤ s.m t) (fun _ _ n' => 2 * s.m t + n + 2 - n') ?_ ?_
 ·exact ⟨f, x1.1, x1.2, v1, YZ x1.1, 0, hr, by omega, by omega, hg1.1, rfl, h1, fun _ _ => .kl (Xc _ _), ⟨XJ _, XQ _, Ud _, fun g => Y9 g _⟩, fun k e1 e2 e3 => hl1 k e2 e3, rfl, by omega⟩
 intro T1 H1 n1
 rintro ⟨g, b, s1, v1, av, j, hr, hmg, hgf, hI1, rfl, hQ, hfz, ⟨hav1, hav2, hav3, hav4⟩, hlow, rfl, hj⟩
 obtain ⟨g, rfl⟩ : ∃ q, g = q + 1 := ⟨g - 1, by omega⟩
 simp only [orsF] at hr
 have g1 : (n + 2 * j = n + 2 * j + 1) = False := by simp
 have g2 : (n + 2 * j + 1 = n + 2 * j) = False := by simp
 refine Zb fun K2 hK2 => ?_
 refine Za zs [0, 3, 9] fun K Y => ?_
 simp only [go_sem, seval]
 refine Zg func186 rfl rfl rfl ((Xr fs t s1 kr ko v1 wOr _ _ hQ.r)) ?_
 apply Y; clear Y K
 refine Ze ?_ ?_ <;> intro hb
 ·rw [if_pos hb] at hr
  refine Zd ?_
  simp only [go_sem, seval]
  apply hK2
  clear hK2 K2
  refine Zj ?_
  refine Za zs [0, 3] fun K Y => ?_
  simp only [go_sem, seval]
  refine Zi (args' := [.loc kr 0 0 0 []]) func187 rfl rfl rfl (YI fs t s1 kr ko v1 ht hI1.far (hI1.outs ht) _ _ hQ) ?_ ?_
  rotate_left
  ·rintro q9 H' n' hc
   exact hc.up (fun p9 he => by rw [Yu he] at hr; exact hr) (by omega) hlow
  rintro rr H2 n9 hc
  obtain ⟨_, v2, he, h2, rfl, hl2⟩ := hc.got (by omega) (by omega) hne
  obtain ⟨x2, hx2, hy⟩ := map_ok he
  cases hy
  have ht2 := YT ht hI1 (Y1 hb) (w := x2.1) (s' := x2.2) hx2
  have hI2 := ht2.1.1
  have hm2 := ht2.2.1
  simp only [hx2, Xb] at hr
  apply Y; clear Y K
  refine Za zs [0, 4, 5] fun K Y => ?_
  simp only [go_sem, seval, hav1, hav2, hav4]
  refine Zi (args' := [.loc kr 0 0 0 []]) func185 rfl rfl rfl (hF g (by omega) x2.2 v2 _ _ hI2 (by omega) h2) ?_ ?_
  rotate_left
  ·rintro q9 H' n' hc
   exact hc.up (fun p9 he => by rw [Yu he] at hr; exact hr) (by omega) (fun k e1 e2 e3 => (hl2 k e2 e3).trans (hlow k e1 e2 e3))
  rintro rr H3 n9 hc
  obtain ⟨_, v3, he, h3, rfl, hl3⟩ := hc.got (by omega) (by omega) hne
  obtain ⟨x3, hx3, hy⟩ := map_ok he
  cases hy
  have hg3 := (Va ht g).2.2.1 x2.2 x3.1 x3.2 hI2 hx3
  have hm3 := hg3.2.1
  simp only [hx3, Xb] at hr
  simp only [go_sem, seval, XJ, XQ]
  apply Y; clear Y K
  refine Zl zs [0, 3] fun K Y => ?_
  simp only [go_sem, seval]
  apply Y; clear Y K
  simp only [go_sem, seval]
  refine ⟨⟨g, .or b x3.1, x3.2, v3, _, j + 1, hr, by omega, by omega, hg3.1, rfl, ?_, ?_, ⟨rfl, rfl, rfl, fun g => by cases g <;> rfl⟩, ?_, by omega, by omega⟩, by omega⟩
  ·exact h3.low (fun k hk9 => by simp only [MF]; (repeat rw [if_neg (by omega)])) (by omega)
  ·intro H4 hag
   have hb1 : H4 (n + 2 * j) = some (.arr 0 1 [av]) := (hag _ (by omega) (by omega)).trans (by (try simp only [MF]); simp)
   have hb2 : H4 (n + 2 * j + 1) = some (.arr 0 1 [YZ x3.1]) := (hag _ (by omega) (by omega)).trans (by (try simp only [MF]); simp)
   exact .fn .nil (.cons (Wi hb1 (by omega) (hfz H4 fun k a1 a2 => (hag k a1 (by omega)).trans (by (try simp only [MF]); (repeat rw [if_neg (by omega)]); rw [hl3 k (by omega) (by omega)]; exact hl2 k (by omega) (by omega)))) (.cons (Wi hb2 (by omega) (.kl (Xc _ _))) .nil))
  ·intro k e1 e2 e3
   (repeat rw [if_neg (by omega)])
   rw [hl3 k e2 e3, hl2 k e2 e3]; exact hlow k e1 e2 e3
 rw [if_neg (by rw [hb]; simp), QW] at hr
 refine ZA ?_
 simp only [go_sem, seval]
 apply hK1
 refine Za zs [2] fun K Y => ?_
 simp only [go_sem, seval, hav4]
 apply Y; clear Y K
 refine Zf ?_
 simp only [go_sem, seval]
 exact QdE.ok hr hQ hko hlow (hfz _ (fun _ _ _ => rfl))
theorem Kz {fs : List Fml} (hfs : fs.length ≤ 1048576) {t : List UInt8} (ht : t.length ≤ 512) {kr ko : Nat} : ∀ f, (∀ g, g ≤ f → FactK fs t kr ko g) ∧ (∀ g, g ≤ f → TermK fs t kr ko g) ∧ ∀ g, g ≤ f → CondK fs t kr ko g
 | 0 => by
   refine ⟨fun g hg => ?_, fun g hg => ?_, fun g hg => ?_⟩ <;> (intro s ver H n hI hm h; omega)
 | f + 1 => by
   obtain ⟨h1, h2, h3⟩ := Kz hfs ht f
   refine ⟨fun g hg => ?_, fun g hg => ?_, fun g hg => ?_⟩
   ·rcases Nat.lt_or_ge g (f + 1) with q | q
    ·exact h1 g (by omega)
    ·obtain rfl : g = f + 1 := by omega
     exact c_query_fact hfs ht (h1 f (Nat.le_refl _)) (h3 f (Nat.le_refl _))
   ·exact c_query_term ht fun q hq => h1 q (by omega)
   ·exact c_query_cond ht fun q hq => h2 q (by omega)
structure QO (k : Nat) (a b c d : AV) (H : Heap) : Prop where
 c1 : H k = some (.arr 0 1 [a])
 c2 : H (k + 1) = some (.arr 0 1 [b])
 c3 : H (k + 2) = some (.arr 0 1 [c])
 c4 : H (k + 3) = some (.arr 0 1 [d])
 sz : a.sz = 1 ∧ b.sz = 1 ∧ c.sz = 1 ∧ d.sz = 1
theorem Vb {k : Nat} {H : Heap} {n : Nat} : XV prog 160 [.loc k 0 0 0 [], .loc (k + 1) 0 0 0 [], .loc (k + 2) 0 0 0 [], .loc (k + 3) 0 0 0 []] .ret H n (fun m' H' n' => m' = .ret ∧ H' = H ∧ n' = n) := by
 refine UG zs [0, 1, 2, 3, 7] 0 func160 rfl ntmps160 (congrArg Array.toList results160) (by simp) rfl (by show _ < _; decide) fun K Y => ?_
 simp only [go_sem, seval]
 apply Y; clear Y K
 refine Zj ?_
 refine ZE zs [0, 1, 2, 3, 7, 9] ?_
 refine Ze ?_ ?_ <;> intro hb
 ·refine Zl zs [] fun K Y => ?_
  simp only [go_sem, seval]
  apply Y; clear Y K
  simp only [go_sem, seval]
 exact absurd hb (by decide) --dead
theorem XP {k : Nat} {a b c d : AV} (p : Nat) {H : Heap} {n : Nat} (hk : k + 3 < n) (h : QO k a b c d H) : XV prog 160 [.loc k 0 0 0 [], .loc (k + 1) 0 0 0 [], .loc (k + 2) 0 0 0 [], .loc (k + 3) 0 0 0 []] (.pan (Uq p)) H n (fun m' H' n' => m' = .ret ∧ n ≤ n' ∧ QO k .nilf (.str []) (.int .i64 p) (.bool false) H' ∧ ∀ j, j < k → H' j = H j) := by
 unfold Uq
 have h1 := h.c1
 have h2 := h.c2
 have h3 := h.c3
 have h4 := h.c4
 obtain ⟨z1, z2, z3, z4⟩ := h.sz
 have g1 : (k = n) = False := by simp; omega
 have g2 : (k + 1 = n) = False := by simp; omega
 have g3 : (k + 2 = n) = False := by simp; omega
 have g4 : (k + 3 = n) = False := by simp; omega
 have g5 : (k + 1 = k) = False := by simp
 have g6 : (k + 2 = k) = False := by simp
 have g7 : (k + 3 = k) = False := by simp
 have g8 : (k + 2 = k + 1) = False := by simp
 have g9 : (k + 3 = k + 1) = False := by simp
 have f1 : (k + 3 = k + 2) = False := by simp
 have f2 : (n = k) = False := by simp; omega
 have f3 : (n = k + 1) = False := by simp; omega
 have f4 : (n = k + 2) = False := by simp; omega
 have f5 : (n = k + 3) = False := by simp; omega
 refine UG zs [0, 1, 2, 3, 7] 0 func160 rfl ntmps160 (congrArg Array.toList results160) (by simp) rfl (by show _ < _; decide) fun K Y => ?_
 simp only [go_sem, seval]
 apply Y; clear Y K
 refine Zj ?_
 refine Za zs [0, 1, 2, 3, 7, 9] fun K Y => ?_
 simp only [go_sem, seval]
 apply Y; clear Y K
 refine Ze ?_ ?_ <;> intro hb
 ·exact absurd hb (by decide) --dead
 refine Za zs [0, 1, 2, 3, 7, 11, 12] fun K Y => ?_
 simp only [go_sem, seval]
 repeat refine peel ?_
 apply Y; clear Y K
 refine Ze ?_ ?_ <;> intro hb
 ·refine Za zs [0, 1, 2, 3, 5] fun K Y => ?_
  simp only [go_sem, seval]
  apply Y; clear Y K
  refine Ms rfl zs [] [.q, .q, .w [0, 1], .w [0, 1], .w [], .w []] (by kernel_rfl) (fun _ _ _ _ _ h => h) fun K Y => ?_
  simp only [go_sem, seval, h1, h2, h3, h4, z1, z2, z3, z4, g1, g2, g3, g4, g5, g6, g7, g8, g9, f1, f2, f3]
  apply Y; clear Y K
  simp only [go_sem, seval]
  refine ⟨by omega, ⟨by simp [Heap.put], by simp [Heap.put], by simp [Heap.put], by simp [Heap.put], rfl, rfl, rfl, rfl⟩, fun j hj => ?_⟩
  (repeat rw [if_neg (by omega)])
 exact absurd hb (by decide) --dead
def parseAV : Except Nat (Tst × List UInt8) → AV
 | .ok x => .tup [YZ x.1, .str x.2, .int .i64 0, .bool true]
 | .error p => .tup [.nilf, .str [], .int .i64 p, .bool false]
def NoPan (Q : AEx → (Nat → AV) → Heap → Nat → Prop) : AEx → (Nat → AV) → Heap → Nat → Prop := fun e T H n => match e with | .pan _ => False | e => Q e T H n
theorem awp_noPan {P : Program} {N : Nat} {code : Code} {T : Nat → AV} {H : Heap} {n : Nat} {Q : AEx → (Nat → AV) → Heap → Nat → Prop} (h : awp P N code T H n (NoPan Q)) : awp P N code T H n Q :=
 h.mono fun e _ _ _ hq => by cases e <;> first | exact hq | exact hq.elim
def qst0 : Qst := ⟨0, ⟨0, 0, [], 0, []⟩, [], 0⟩
theorem step_QI {t : List UInt8} (ht : t.length ≤ 512) {s : Qst} (h : Jc t qst0 = .ok s) : QI t s := by
 unfold Jc at h
 obtain ⟨x, hx, hy⟩ := map_ok h
 obtain ⟨g1, g2, g3, g4, g5⟩ := wordF_len ht (Nat.zero_le _) (w := x.1) (q := x.2) hx
 subst hy
 refine ⟨g2, ?_, Nat.zero_le _, fun w hw => (by cases hw), g5⟩
 show ([] : List Wd).length + _ ≤ _
 unfold Qst.m
 simp only [List.length_nil]
 split <;> omega
theorem qi_mle {t : List UInt8} {s : Qst} (h : QI t s) : s.m t ≤ t.length + 1 := by have := h.out; omega
theorem QO.on {k : Nat} {a b c d : AV} {H H' : Heap} (h : QO k a b c d H) (hl : ∀ j, k ≤ j → j < k + 4 → H' j = H j) : QO k a b c d H' :=
 ⟨(hl _ (by omega) (by omega)).trans h.c1, (hl _ (by omega) (by omega)).trans h.c2, (hl _ (by omega) (by omega)).trans h.c3, (hl _ (by omega) (by omega)).trans h.c4, h.sz⟩
set_option maxHeartbeats 3200000 in
theorem QJ (fs : List Fml) (hfs : fs.length ≤ 1048576) (t : List UInt8) (H : Heap) (n : Nat) : Ret prog 142 [Zt fs, .str t] H n (parseAV (LG fs t)) H n := by
 have hszs : (Zt fs).sz = 1 := rfl
 have hags : (Zt fs).isAgg = true := rfl
 have hmos : (Zt fs).memOK = true := rfl
 have hR1 := hszs
 have c1 := hszs
 have c2 := hszs
 have hB := hszs
 have hO1 := hszs
 have hnth := hszs
 have hx := hszs
 obtain ⟨r, hr⟩ : ∃ r, r = LG fs t := ⟨_, rfl⟩
 rw [← hr]
 unfold LG at hr
 have f1 : (n = n + 1) = False := by simp
 have f2 : (n = n + 2) = False := by simp
 have f3 : (n = n + 3) = False := by simp
 have f4 : (n = n + 4) = False := by simp
 refine Ret.fin ?_
 refine Ql func142 rfl ntmps142 (congrArg Array.toList results142) (by simp) ?_
 simp only [go_sem]
 refine awpD_reg zs [1, 2, 4, 5, 6, 7] fun K Y => ?_
 simp only [go_sem, seval, Nat.add_assoc]
 apply Y; clear Y K
 refine awpD_seq_k fun K1 hK1 => ?_
 refine Za zs [1, 2, 4, 5, 6, 7, 13] fun K Y => ?_
 simp only [go_sem, seval]
 apply Y; clear Y K
 refine Ze ?_ ?_ <;> intro hb
 ·have hb8 : 512 < t.length := by have := of_decide_eq_true hb; omega
  rw [if_pos hb8] at hr
  refine Za zs [4, 5, 6, 7] fun K Y => ?_
  simp only [go_sem, seval, f1, f2, f3]
  apply Y; clear Y K
  refine Zf ?_
  simp only [go_sem, seval, f1, f2, f3]
  first
  | exact ⟨_, rfl, fun k hk => by (repeat rw [if_neg (by omega)]), by rw [hr]; exact .kl ⟨trivial, trivial, trivial, trivial, trivial⟩⟩
  | (refine (Vb (k := n + 1)).mono ?_
     rintro m' H' n' ⟨rfl, rfl, rfl⟩
     have c1 := hC.c1
     have c2 := hC.c2
     have c3 := hC.c3
     have c4 := hC.c4
     simp only [FinA, go_sem, seval, Nat.add_assoc] at c1 c2 c3 c4 ⊢
     simp only [FinA, go_sem, seval, Nat.add_assoc, c1, c2, c3, c4, XJ, XQ, Ud, Y9]
     try refine ⟨trivial, ?_⟩
     exact ⟨_, rfl, hlz, by rw [hr]; exact .kl ⟨Xc _ _, trivial, trivial, trivial, trivial⟩⟩)
 have hb8 : ¬ 512 < t.length := by have := of_decide_eq_false hb; omega
 rw [if_neg hb8] at hr
 refine Zd ?_
 simp only [go_sem, seval]
 apply hK1
 clear hK1 K1
 refine awpD_def zs [1, 2, 4, 5, 6, 7] 1 rfl trivial fun K Y => ?_
 simp only [go_sem, seval]
 refine ⟨⟨_, func160, rfl, rfl⟩, ?_⟩
 apply Y; clear Y K
 refine Yh (fun H' n' => H' n = some (.arr 0 1 [Zt fs]) ∧ QO (n + 1) .nilf (.str []) (.int .i64 0) (.bool false) H' ∧ (∀ k, k < n → H' k = H k) ∧ n' = n + 5) ⟨by simp [Heap.put, Zt], ⟨by simp [Heap.put], by simp [Heap.put], by simp [Heap.put], by simp [Heap.put], rfl, rfl, rfl, rfl⟩, fun k hk => by (try simp only [MF]); (repeat rw [if_neg (by omega)]), by omega⟩ fun H5 n5 ⟨r1, hC, hl5, hn5⟩ => ?_
 subst hn5
 refine Za zs [4, 5, 6, 7, 8] fun K Y => ?_
 simp only [go_sem, seval, Nat.add_assoc, r1]
 repeat refine peel ?_
 apply Y; clear Y K
 refine Xk (n + 5) 5 (ver := 0) (e := 10) (els := [.agg [Zt fs, .str t, .int .i64 0, .agg [.int .i64 0, .int .i64 0, .str [], .int .i64 0, .nilsl], .nilsl, .int .i64 0]]) (els' := [.agg [Zt fs, .str t, .int .i64 0, .agg [.int .i64 0, .int .i64 0, .str [], .int .i64 0, .nilsl], .osl (n + 6) 0 0 0, .int .i64 0]]) (by simp [Heap.put, Zt]) ⟨Adp.agg ⟨.refl _ _, .refl _ _, .refl _ _, .refl _ _, Adp.nilsl _, .refl _ _, trivial⟩, trivial⟩ ?_
 refine WN (n + 5) (ver := 0) (e := 10) (els := [.agg [Zt fs, .str t, .int .i64 0, .agg [.int .i64 0, .int .i64 0, .str [], .int .i64 0, .nilsl], .osl (n + 6) 0 0 0, .int .i64 0]]) (els' := [.agg [Zt fs, .str t, .int .i64 0, .agg [.int .i64 0, .int .i64 0, .str [], .int .i64 0, .sl 1 []], .osl (n + 6) 0 0 0, .int .i64 0]]) (MG _ _ _) ⟨Wk.agg ⟨.refl _, .refl _, .refl _, Wk.agg ⟨.refl _, .refl _, .refl _, .refl _, .nilsl _, trivial⟩, .refl _, .refl _, trivial⟩, trivial⟩ ?_
 refine Yh (fun H' n' => QdH fs t (n + 5) (n + 6) qst0 0 H' n' ∧ QO (n + 1) .nilf (.str []) (.int .i64 0) (.bool false) H' ∧ (∀ k, k < n → H' k = H k) ∧ n' = n + 7) ⟨⟨by omega, by omega, by omega, by simp [Heap.put, qdO, qst0, Zt, wdAV, bys], by simp [Heap.put, outO, qst0]⟩, hC.on (fun j a1 a2 => by (try simp only [MF]); (repeat rw [if_neg (by omega)])), fun k hk => by (try simp only [MF]); (repeat rw [if_neg (by omega)]); exact hl5 k hk, by omega⟩ fun H6 n6 ⟨hQ, hC, hl6, hn6⟩ => ?_
 subst hn6
 refine Za zs [4, 5, 6, 7, 8] fun K Y => ?_
 simp only [go_sem, seval]
 refine Zi (args' := [.loc (n + 5) 0 0 0 []]) func161 rfl rfl rfl (Jz fs t qst0 (n + 5) (n + 6) 0 (by omega) (Nat.zero_le _) _ _ hQ) ?_ ?_
 rotate_left
 ·rintro q9 H9 n9 hc
  obtain ⟨p, he, rfl, hn, hl⟩ := hc.pan
  have hr := hr.trans (bind_err (Yu he))
  refine (XP (k := n + 1) p (by omega) (hC.on fun j a1 a2 => hl _ (by omega) (by omega) (by omega))).mono ?_
  rintro m' H' n' ⟨rfl, q1, q2, q3⟩
  have c1 := q2.c1
  have c2 := q2.c2
  have c3 := q2.c3
  have c4 := q2.c4
  simp only [FinA, go_sem, seval, Nat.add_assoc] at c1 c2 c3 c4 ⊢
  simp only [FinA, go_sem, seval, Nat.add_assoc, c1, c2, c3, c4]
  exact ⟨_, rfl, fun k hk => (q3 k (by omega)).trans ((hl k (by omega) (by omega) (by omega)).trans (hl6 k hk)), by rw [hr]; exact .kl ⟨trivial, trivial, trivial, trivial, trivial⟩⟩
 rintro rr H7 n9 hc
 obtain ⟨x1, v1, he, h1, rfl, hl1⟩ := hc.got (by omega) (by omega) (by omega)
 obtain ⟨_, hx1, hy⟩ := map_ok he
 cases hy
 have hI1 := step_QI (by omega) hx1
 have hm1 := qi_mle hI1
 rw [show Jc t ⟨0, ⟨0, 0, [], 0, []⟩, [], 0⟩ = .ok x1 from hx1, Xb] at hr
 have hC := hC.on (H' := H7) fun j a1 a2 => hl1 _ (by omega) (by omega)
 apply Y; clear Y K
 refine Za zs [4, 5, 6, 7, 8] fun K Y => ?_
 simp only [go_sem, seval]
 refine Zi (args' := [.loc (n + 5) 0 0 0 []]) func162 rfl rfl rfl ((Kz hfs (by omega) (8 * t.length + 16)).2.2 _ (Nat.le_refl _) x1 v1 _ _ hI1 (by omega) h1) ?_ ?_
 rotate_left
 ·rintro q9 H9 n9 hc
  obtain ⟨p, he, rfl, hn, hl⟩ := hc.pan
  have hr := hr.trans (bind_err (Yu he))
  refine (XP (k := n + 1) p (by omega) (hC.on fun j a1 a2 => hl _ (by omega) (by omega) (by omega))).mono ?_
  rintro m' H' n' ⟨rfl, q1, q2, q3⟩
  have c1 := q2.c1
  have c2 := q2.c2
  have c3 := q2.c3
  have c4 := q2.c4
  simp only [FinA, go_sem, seval, Nat.add_assoc] at c1 c2 c3 c4 ⊢
  simp only [FinA, go_sem, seval, Nat.add_assoc, c1, c2, c3, c4]
  exact ⟨_, rfl, fun k hk => (q3 k (by omega)).trans ((hl k (by omega) (by omega) (by omega)).trans ((hl1 k (by omega) (by omega)).trans (hl6 k hk))), by rw [hr]; exact .kl ⟨trivial, trivial, trivial, trivial, trivial⟩⟩
 rintro rr H8 n9 hc
 obtain ⟨_, v2, he, h2, rfl, hl2⟩ := hc.got (by omega) (by omega) (by omega)
 obtain ⟨x2, hx2, hy⟩ := map_ok he
 cases hy
 have hg2 := (Va (by omega) _).1 x1 x2.1 x2.2 hI1 hx2
 rw [hx2, Xb] at hr
 have hC := hC.on (H' := H8) fun j a1 a2 => hl2 _ (by omega) (by omega)
 have c1 := hC.c1
 simp only [go_sem, seval, c1, XJ, XQ]
 apply Y; clear Y K
 refine Zb fun K2 hK2 => ?_
 refine Yh (fun H' n' => QdH fs t (n + 5) (n + 6) x2.2 v2 H' n' ∧ QO (n + 1) (YZ x2.1) (.str []) (.int .i64 0) (.bool false) H' ∧ (∀ k, k < n → H' k = H k) ∧ n' = n + 7) ⟨h2.on (ME _ _ (by omega)) (ME _ _ (by omega)) (Nat.le_refl _), ⟨MG _ _ _, (ME _ _ (by omega)).trans hC.c2, (ME _ _ (by omega)).trans hC.c3, (ME _ _ (by omega)).trans hC.c4, XJ _, rfl, rfl, rfl⟩, fun k hk => by rw [ME _ _ (by omega), hl2 k (by omega) (by omega), hl1 k (by omega) (by omega)]; exact hl6 k hk, by omega⟩ fun H9 n9 ⟨hQ, hC, hl9, hn9⟩ => ?_
 subst hn9
 have hR1 := hQ.r
 unfold qdO at hR1
 refine Za zs [4, 5, 6, 7, 8, 28] fun K Y => ?_
 simp only [go_sem, seval, hR1, wdAV]
 apply Y; clear Y K
 refine Ze ?_ ?_ <;> intro hb
 ·have hb1 : x2.2.nxt.kind ≠ 0 := by have h9 := hb; simp at h9; omega
  rw [if_pos hb1] at hr
  refine Zl zs [4, 5, 6, 7, 8] fun K Y => ?_
  simp only [go_sem, seval, hR1, wdAV]
  refine Zi (args' := [.int .i64 x2.2.nxt.pos]) func163 rfl rfl rfl (Yq x2.2.nxt.pos _ _) ?_ ?_
  ·rintro rr H' n' ⟨rfl, rfl, hz⟩
   cases hz
  rintro q9 H' n' ⟨rfl, rfl, hz⟩
  cases hz
  refine (XP (k := n + 1) x2.2.nxt.pos (by omega) hC).mono ?_
  rintro m' H' n' ⟨rfl, q1, q2, q3⟩
  have c1 := q2.c1
  have c2 := q2.c2
  have c3 := q2.c3
  have c4 := q2.c4
  simp only [FinA, go_sem, seval, Nat.add_assoc] at c1 c2 c3 c4 ⊢
  simp only [FinA, go_sem, seval, Nat.add_assoc, c1, c2, c3, c4]
  exact ⟨_, rfl, fun k hk => (q3 k (by omega)).trans (hl9 k hk), by rw [hr]; exact .kl ⟨trivial, trivial, trivial, trivial, trivial⟩⟩
 have hb1 : ¬ x2.2.nxt.kind ≠ 0 := by have h9 := hb; simp at h9; omega
 rw [if_neg hb1] at hr
 refine Zd ?_
 simp only [go_sem, seval]
 apply hK2
 clear hK2 K2
 refine Zb fun K3 hK3 => ?_
 refine Za zs [4, 5, 6, 7, 8, 38, 39, 40] fun K Y => ?_
 simp only [go_sem, seval, hR1, wdAV]
 apply Y; clear Y K
 refine Zj ?_
 refine Zz (fun T' H' n' => ∃ i : Nat, i ≤ x2.2.out.length ∧ T' = tl [(4, .loc (n + 1) 0 0 0 []), (5, .loc (n + 2) 0 0 0 []), (6, .loc (n + 3) 0 0 0 []), (7, .loc (n + 4) 0 0 0 []), (8, .loc (n + 5) 0 0 0 []), (38, .osl (n + 6) v2 0 x2.2.out.length), (39, .int .i64 x2.2.out.length), (40, .int .i64 i)] ∧ QdH fs t (n + 5) (n + 6) x2.2 v2 H' n' ∧ QO (n + 1) (YZ x2.1) (.str (Wy none (x2.2.out.take i))) (.int .i64 0) (.bool false) H' ∧ (∀ k, k < n → H' k = H k) ∧ n + 7 ≤ n') (fun T' _ _ => x2.2.out.length - iv (T' 40)) ?_ ?_
 ·exact ⟨0, Nat.zero_le _, rfl, hQ, hC, hl9, Nat.le_refl _⟩
 intro T1 H1 n1
 rintro ⟨i, hi, rfl, hQ, hC, hl9, hn1⟩
 have hR1 := hQ.r
 unfold qdO at hR1
 have hO1 := hQ.o
 unfold outO at hO1
 have c1 := hC.c1
 have c2 := hC.c2
 have c3 := hC.c3
 have c4 := hC.c4
 have g1 : (n + 5 = n1) = False := by simp; omega
 have g2 : (n + 6 = n1) = False := by simp; omega
 have g3 : (n + 2 = n1) = False := by simp; omega
 have g4 : (n1 = n + 2) = False := by simp; omega
 have hol := hg2.1.outs (by omega)
 refine Za zs [4, 5, 6, 7, 8, 38, 39, 40, 41] fun K Y => ?_
 simp only [go_sem, seval]
 apply Y; clear Y K
 refine Zb fun K4 hK4 => ?_
 refine Ze ?_ ?_ <;> intro hb
 ·have hlt : i < x2.2.out.length := by have := of_decide_eq_true hb; omega
  have hnth : nth (x2.2.out.map wdAV) i = wdAV (x2.2.out.getD i default) := ZF wdAV _ _ hlt
  have hnth2 : nth (x2.2.out.map wdAV) ((i : Int) - 1).toNat = wdAV (x2.2.out.getD (i - 1) default) := by rw [show ((i : Int) - 1).toNat = i - 1 by omega]; exact ZF wdAV _ _ (by omega)
  have hx : IntKind.i64.wrap ((i : Int) + 1) = ((i + 1 : Nat) : Int) := w1 (by omega)
  have hx2 : IntKind.i64.wrap ((i : Int) - 1) = (i : Int) - 1 := w64 (by omega) (by omega)
  have hcan := canonG_take x2.2.out hlt
  have hcl := Mf (x2.2.out.take i) none (fun w hw => hg2.1.text w (List.mem_of_mem_take hw))
  rw [List.length_take] at hcl
  have htx := hg2.1.text _ (X8 x2.2.out hlt)
  refine Zd ?_
  simp only [go_sem, seval]
  apply hK4
  clear hK4 K4
  refine Zb fun K5 hK5 => ?_
  refine Zj ?_
  refine Za zs [4, 5, 6, 7, 8, 9, 10, 38, 39, 40] fun K Y => ?_
  simp only [go_sem, seval, hO1, hnth, wdAV, List.length_map, Int.toNat_natCast]
  repeat refine peel ?_
  apply Y; clear Y K
  refine Zb fun K6 hK6 => ?_
  refine Za zs [4, 5, 6, 7, 8, 10, 38, 39, 40, 63] fun K Y => ?_
  simp only [go_sem, seval, hR1, hO1, g1, g2, wdAV, List.length_map, Int.toNat_natCast, hnth2, hx2]
  repeat (first | refine peel ?_ | refine ⟨by (intro hx9; rcases Nat.eq_zero_or_pos i with q | q; (rw [decide_eq_false (by omega)] at hx9; cases hx9); first | exact ⟨by omega, by omega⟩ | omega), ?_⟩)
  apply Y; clear Y K
  refine Ze ?_ ?_ <;> intro hb
  ·have hsep : We (if i = 0 then none else some (x2.2.out.getD (i - 1) default)) (x2.2.out.getD i default) = [32] := by
     have hi0 : i ≠ 0 := by intro e; rw [e] at hb; simp at hb
     rw [if_neg hi0]; unfold We; rw [decide_eq_true (by omega)] at hb; simp at hb; simp [hb.1, hb.2]
   refine Zl zs [4, 5, 6, 7, 8, 10, 38, 39, 40] fun K Y => ?_
   simp only [go_sem, seval, c2, g3, Int.toNat_natCast]
   repeat refine peel ?_
   apply Y; clear Y K
   simp only [go_sem, seval]
   apply hK6
   clear hK6 K6
   refine Zl zs [4, 5, 6, 7, 8, 38, 39, 40] fun K Y => ?_
   simp only [go_sem, seval, g4, Int.toNat_natCast]
   repeat (first | refine peel ?_ | refine ⟨by (simp only [List.length_append, List.length_cons, List.length_nil]; omega), ?_⟩)
   apply Y; clear Y K
   simp only [go_sem, seval]
   apply hK5
   clear hK5 K5
   refine Zl zs [4, 5, 6, 7, 8, 38, 39, 40] fun K Y => ?_
   simp only [go_sem, seval, hx, Int.toNat_natCast]
   apply Y; clear Y K
   simp only [go_sem, seval]
   refine ⟨⟨i + 1, by omega, rfl, hQ.on (by (try simp only [MF]); (repeat rw [if_neg (by omega)])) (by (try simp only [MF]); (repeat rw [if_neg (by omega)])) (by omega), ⟨?_, ?_, ?_, ?_, hC.sz.1, rfl, rfl, rfl⟩, fun k hk => by (try simp only [MF]); (repeat rw [if_neg (by omega)]); exact hl9 k hk, by omega⟩, by omega⟩
   ·(try simp only [MF]); (repeat rw [if_neg (by omega)]); exact hC.c1
   ·rw [MG, hcan, hsep]; simp
   ·(try simp only [MF]); (repeat rw [if_neg (by omega)]); exact hC.c3
   ·(try simp only [MF]); (repeat rw [if_neg (by omega)]); exact hC.c4
  have hsep : We (if i = 0 then none else some (x2.2.out.getD (i - 1) default)) (x2.2.out.getD i default) = [] := by
    by_cases hi0 : i = 0
    ·rw [if_pos hi0]; rfl
    ·rw [if_neg hi0]; unfold We; simp only; rw [if_neg]; rintro ⟨a1, a2⟩; rw [decide_eq_true (by omega), show ((x2.2.out.getD i default).text == [41]) = false by simpa using a1, show ((x2.2.out.getD (i - 1) default).text == [40]) = false by simpa using a2] at hb; cases hb
  refine Zd ?_
  simp only [go_sem, seval]
  apply hK6
  clear hK6 K6
  refine Zl zs [4, 5, 6, 7, 8, 38, 39, 40] fun K Y => ?_
  simp only [go_sem, seval, c2, g3, Int.toNat_natCast]
  repeat refine peel ?_
  apply Y; clear Y K
  simp only [go_sem, seval]
  apply hK5
  clear hK5 K5
  refine Zl zs [4, 5, 6, 7, 8, 38, 39, 40] fun K Y => ?_
  simp only [go_sem, seval, hx, Int.toNat_natCast]
  apply Y; clear Y K
  simp only [go_sem, seval]
  refine ⟨⟨i + 1, by omega, rfl, hQ.on (by (try simp only [MF]); (repeat rw [if_neg (by omega)])) (by (try simp only [MF]); (repeat rw [if_neg (by omega)])) (by omega), ⟨?_, ?_, ?_, ?_, hC.sz.1, rfl, rfl, rfl⟩, fun k hk => by (try simp only [MF]); (repeat rw [if_neg (by omega)]); exact hl9 k hk, by omega⟩, by omega⟩
  ·(try simp only [MF]); (repeat rw [if_neg (by omega)]); exact hC.c1
  ·rw [MG, hcan, hsep]; simp
  ·(try simp only [MF]); (repeat rw [if_neg (by omega)]); exact hC.c3
  ·(try simp only [MF]); (repeat rw [if_neg (by omega)]); exact hC.c4
 have hge : i = x2.2.out.length := by have := of_decide_eq_false hb; omega
 have htk : x2.2.out.take i = x2.2.out := List.take_of_length_le (by omega)
 refine ZA ?_
 simp only [go_sem, seval]
 apply hK3
 refine awp_noPan ?_
 refine YJ rfl zs [4, 5, 6, 7] [.q, .q, .w [1], .w [], .w [], .w []] (by kernel_rfl) (fun _ _ _ _ _ h => h) fun K Y => ?_
 simp only [go_sem, seval, c1, c2, c3, c4, XJ, XQ, Ud]
 apply Y; clear Y K
 refine Yh (fun H' n' => QO (n + 1) (YZ x2.1) (.str (Wy none x2.2.out)) (.int .i64 0) (.bool true) H' ∧ (∀ k, k < n → H' k = H k)) ⟨⟨by simp [Heap.put], by simp [Heap.put, htk], by simp [Heap.put], by simp [Heap.put], XJ _, rfl, rfl, rfl⟩, fun k hk => by (try simp only [MF]); (repeat rw [if_neg (by omega)]); exact hl9 k hk⟩ fun Hz nz ⟨hC, hlz⟩ => ?_
 refine Zf ?_
 simp only [NoPan, FinD]
 first
 | exact ⟨_, rfl, fun k hk => by (repeat rw [if_neg (by omega)]), by rw [hr]; exact .kl ⟨trivial, trivial, trivial, trivial, trivial⟩⟩
 | (refine (Vb (k := n + 1)).mono ?_
    rintro m' H' n' ⟨rfl, rfl, rfl⟩
    have c1 := hC.c1
    have c2 := hC.c2
    have c3 := hC.c3
    have c4 := hC.c4
    simp only [FinA, go_sem, seval, Nat.add_assoc] at c1 c2 c3 c4 ⊢
    simp only [FinA, go_sem, seval, Nat.add_assoc, c1, c2, c3, c4, XJ, XQ, Ud, Y9]
    try refine ⟨trivial, ?_⟩
    exact ⟨_, rfl, hlz, by rw [hr]; exact .kl ⟨Xc _ _, trivial, trivial, trivial, trivial⟩⟩)
end Go.Proofs.YtifnhpmeoogedaaGreatDoor
namespace Go.Rt
open Go Go.Sx
def fbad (nf : Nat) (l : List Int) (i : Nat) : Bool := decide (l.getD i 0 < 0) || decide ((nf : Int) ≤ l.getD i 0) || (decide (0 < i) && decide (l.getD i 0 ≤ l.getD (i - 1) 0))
def V5 (nf : Nat) (l : List Int) : Bool := (List.range l.length).all fun i => !fbad nf l i
def fits1 (q : QryE) : Bool := decide (256 < q.frm.length) || decide (256 < q.to.length) || (decide (0 < q.to.length) && decide (Lib.compareBytes q.to q.frm ≤ 0))
def fits3 (q : QryE) : Bool := decide (q.pre.length ≤ 256) && decide (0 ≤ q.time) && decide (q.time ≤ 1099511627776) && decide (1 ≤ q.n) && decide (q.n ≤ 16) && decide (1 ≤ q.rows) && decide (q.rows ≤ 1000)
def U1 (nf : Nat) (q : QryE) : Bool := !fits1 q && V5 nf q.fams && fits3 q
def asksB (q : QryE) (row : List UInt8) : Bool := decide (0 ≤ Lib.compareBytes row q.frm) && (decide (q.to.length = 0) || decide (Lib.compareBytes row q.to < 0))
theorem fitsQ_nums {nf : Nat} (hn : nf ≤ 8) {q : QryE} (h : U1 nf q = true) : q.nums := by
 unfold U1 V5 fits3 at h
 simp only [Bool.and_eq_true, decide_eq_true_eq, List.all_eq_true, List.mem_range] at h
 obtain ⟨⟨_, h2⟩, h3⟩ := h
 refine ⟨fun f hf => ?_, by omega, by omega, by omega⟩
 obtain ⟨i, hi, rfl⟩ := List.mem_iff_getElem.1 hf
 have := h2 i hi
 unfold fbad at this
 have e : q.fams.getD i 0 = q.fams[i] := by simp [List.getD, hi]
 rw [e] at this
 simp at this
 omega
structure QryE.fine (q : QryE) : Prop where
 frm : q.frm.length ≤ 1048576
 to : q.to.length ≤ 1048576
 fams : q.fams.length ≤ 1048576
 pre : q.pre.length ≤ 1048576
 whr : q.whr.length ≤ 1048576
 token : q.token.length ≤ 1048576
def Vv (fs : List Fml) (t : List UInt8) : List UInt8 × Int × Int :=
 if Z8 fs ≠ 0 then ([], Z8 fs, 0) else match LG fs t with | .ok x => (x.2, 0, 0) | .error p => ([], 131, p)
end Go.Rt
namespace Go.Proofs.YtifnhpmeoogedaaGreatDoor
open Go Go.Sx Go.Rt Go.Proofs Tryz
theorem Q6 (fs : List Fml) (hfs : fs.length ≤ 1048576) (t : List UInt8) (H : Heap) (n : Nat) : Ret prog 110 [Zt fs, .str t] H n (.tup [.str (Vv fs t).1, .int .i64 (Vv fs t).2.1, .int .i64 (Vv fs t).2.2]) H n := by
 have hszs : (Zt fs).sz = 1 := rfl
 have hags : (Zt fs).isAgg = true := rfl
 have hmos : (Zt fs).memOK = true := rfl
 refine Ret.fin ?_
 refine Zc func110 rfl ntmps110 (congrArg Array.toList results110) (by simp) ?_
 simp only [go_sem]
 refine Za zs [1, 2] fun K Y => ?_
 simp only [go_sem, seval]
 apply Y; clear Y K
 refine Zb fun K1 hK1 => ?_
 refine Za zs [1, 2, 7] fun K Y => ?_
 simp only [go_sem, seval]
 refine Zg func47 rfl rfl rfl ((Xt fs _ _)) ?_
 simp only [go_sem, seval]
 apply Y; clear Y K
 refine Za zs [1, 2, 7, 15] fun K Y => ?_
 simp only [go_sem, seval]
 apply Y; clear Y K
 refine Ze ?_ ?_ <;> intro hb
 ·have hw : Vv fs t = ([], Z8 fs, 0) := by unfold Vv; rw [if_pos (by simpa using hb)]
  refine Za zs [4, 5, 6] fun K Y => ?_
  simp only [go_sem, seval]
  apply Y; clear Y K
  refine Zf ?_
  simp only [go_sem, seval]
  exact ⟨_, rfl, fun k hk => by (repeat rw [if_neg (by omega)]), by rw [hw]; exact .kl ⟨trivial, trivial, trivial, trivial⟩⟩
 have hs0 : Z8 fs = 0 := by simpa using hb
 refine Zd ?_
 simp only [go_sem, seval]
 apply hK1
 clear hK1 K1
 rcases hp : LG fs t with p | x
 ·have hw : Vv fs t = ([], 131, (p : Int)) := by unfold Vv; rw [if_neg (by simp [hs0]), hp]
  refine Za zs [9, 10, 11] fun K Y => ?_
  simp only [go_sem, seval]
  refine Zg func142 rfl rfl rfl ((hp ▸ QJ fs hfs t _ _)) ?_
  simp only [go_sem, seval, parseAV]
  apply Y; clear Y K
  refine Zb fun K2 hK2 => ?_
  refine Za zs [9, 10, 26] fun K Y => ?_
  simp only [go_sem, seval]
  apply Y; clear Y K
  refine Ze ?_ ?_ <;> intro hb
  ·refine Za zs [4, 5, 6] fun K Y => ?_
   simp only [go_sem, seval]
   apply Y; clear Y K
   refine Zf ?_
   simp only [go_sem, seval]
   exact ⟨_, rfl, fun k hk => by (repeat rw [if_neg (by omega)]), by rw [hw]; exact .kl ⟨trivial, trivial, trivial, trivial⟩⟩
  exact absurd hb (by decide) --dead
 ·have hw : Vv fs t = (x.2, 0, 0) := by unfold Vv; rw [if_neg (by simp [hs0]), hp]
  refine Za zs [9, 10, 11] fun K Y => ?_
  simp only [go_sem, seval]
  refine Zg func142 rfl rfl rfl ((hp ▸ QJ fs hfs t _ _)) ?_
  simp only [go_sem, seval, parseAV]
  apply Y; clear Y K
  refine Zb fun K2 hK2 => ?_
  refine Za zs [9, 10, 26] fun K Y => ?_
  simp only [go_sem, seval]
  apply Y; clear Y K
  refine Ze ?_ ?_ <;> intro hb
  ·exact absurd hb (by decide) --dead
  refine Zd ?_
  simp only [go_sem, seval]
  apply hK2
  clear hK2 K2
  refine Za zs [4, 5, 6] fun K Y => ?_
  simp only [go_sem, seval]
  apply Y; clear Y K
  refine Zf ?_
  simp only [go_sem, seval]
  exact ⟨_, rfl, fun k hk => by (repeat rw [if_neg (by omega)]), by rw [hw]; exact .kl ⟨trivial, trivial, trivial, trivial⟩⟩
theorem X9 {H : Heap} {n : Nat} {a b : Bool} (h : a = b) : Frz H n (.bool a) (.bool b) := h ▸ .kl trivial
theorem c_query_asks (q : QryE) (row : List UInt8) (H : Heap) (n : Nat) : Ret prog 144 [Zq q, bys row] H n (.bool (asksB q row)) H n := by
 have hsz : (Zq q).sz = 10 := Yj q
 refine Ret.fin ?_
 refine Zc func144 rfl ntmps144 (congrArg Array.toList results144) (by simp) ?_
 simp only [go_sem]
 refine Za zs [1, 2] fun K Y => ?_
 simp only [go_sem, seval, Zq, Zr, bys]
 apply Y; clear Y K
 refine Za zs [4] fun K Y => ?_
 simp only [go_sem, seval]
 refine Zg func141 rfl rfl rfl ((Vg row q.frm _ _)) ?_
 simp only [go_sem, seval, List.length_map]
 refine Zv func141 rfl rfl rfl (fun _ => (Vg row q.to _ _)) ?_
 simp only [go_sem, seval]
 repeat refine peel ?_
 apply Y; clear Y K
 refine Zf ?_
 simp only [go_sem, seval]
 refine ⟨_, rfl, fun k hk => by (repeat rw [if_neg (by omega)]), X9 ?_⟩
 unfold asksB
 have e1 : ((q.to.length : Int) == 0) = decide (q.to.length = 0) := by rw [Bool.eq_iff_iff, beq_iff_eq, decide_eq_true_eq]; omega
 rw [e1]
 cases decide (0 ≤ Lib.compareBytes row q.frm) <;> cases decide (q.to.length = 0) <;> simp
set_option maxHeartbeats 1600000 in
theorem c_query_fits (fs : List Fml) (hfs : fs.length ≤ 1048576) (q : QryE) (hq : q.fams.length ≤ 1048576) (H : Heap) (n : Nat) : Ret prog 109 [Zt fs, Zq q] H n (.bool (U1 fs.length q)) H n := by
 have hszs : (Zt fs).sz = 1 := rfl
 have hsz : (Zq q).sz = 10 := Yj q
 have f1 : (n = n + 1) = False := by simp
 have f2 : (n + 1 = n) = False := by simp
 refine Ret.fin ?_
 refine Zc func109 rfl ntmps109 (congrArg Array.toList results109) (by simp) ?_
 simp only [go_sem]
 refine Za zs [2, 3] fun K Y => ?_
 simp only [go_sem, seval, Zq, Zr, bys]
 apply Y; clear Y K
 refine Zb fun K1 hK1 => ?_
 refine Za zs [2, 3, 30] fun K Y => ?_
 simp only [go_sem, seval, List.length_map]
 repeat refine peel ?_
 refine Zv func141 rfl rfl rfl (fun _ => (Vg q.to q.frm _ _)) ?_
 simp only [go_sem, seval]
 repeat refine peel ?_
 apply Y; clear Y K
 refine Ze ?_ ?_ <;> intro hb
 ·have h1 : fits1 q = true := by unfold fits1; simp only [Int.natCast_pos] at hb; grind
  have hf : U1 fs.length q = false := by unfold U1; rw [h1]; rfl
  refine Za zs [4] fun K Y => ?_
  simp only [go_sem, seval]
  apply Y; clear Y K
  refine Zf ?_
  simp only [go_sem, seval]
  first
  | exact ⟨_, rfl, fun k hk => by (try simp only [MF]); (repeat rw [if_neg (by omega)]), X9 hf.symm⟩
  | (refine ⟨_, rfl, fun k hk => by (try simp only [MF]); (repeat rw [if_neg (by omega)]), X9 ?_⟩
     have hfu : V5 fs.length q.fams = true := by unfold V5; rw [List.all_eq_true]; intro j hj; rw [hno j (by have := List.mem_range.1 hj; omega)]; rfl
     unfold U1 fits3
     rw [h1, hfu]
     have e1 : decide ((q.pre.length : Int) ≤ 256) = decide (q.pre.length ≤ 256) := decide_eq_decide.2 (by omega)
     rw [e1]
     simp only [Bool.cond_false_right, Bool.not_false, Bool.true_and])
 have h1 : fits1 q = false := by unfold fits1; simp only [Int.natCast_pos] at hb; grind
 refine Zd ?_
 simp only [go_sem, seval]
 apply hK1
 clear hK1 K1
 refine Zb fun K2 hK2 => ?_
 refine Za zs [2, 3, 32, 33, 34] fun K Y => ?_
 simp only [go_sem, seval, List.length_map]
 apply Y; clear Y K
 refine Zj ?_
 refine Zz (fun T' H' n' => ∃ i : Nat, i ≤ q.fams.length ∧ (∀ j, j < i → fbad fs.length q.fams j = false) ∧ T' = tl [(2, .loc n 0 0 0 []), (3, .loc (n + 1) 0 0 0 []), (32, Zr q.fams), (33, .int .i64 q.fams.length), (34, .int .i64 i)] ∧ H' = (H.put n (some (.arr 0 1 [Zt fs]))).put (n + 1) (some (.arr 0 10 [Zq q])) ∧ n' = n + 2) (fun T' _ _ => q.fams.length - iv (T' 34)) ?_ ?_
 ·exact ⟨0, Nat.zero_le _, fun j hj => absurd hj (Nat.not_lt_zero _), by simp [Zr], by simp [Zt, Zq, Zr, bys], rfl⟩
 intro T1 H1 n1
 rintro ⟨i, hi, hno, rfl, rfl, rfl⟩
 refine Za zs [2, 3, 32, 33, 34, 35] fun K Y => ?_
 simp only [go_sem, seval, Zt, Zq, Zr, bys]
 apply Y; clear Y K
 refine Zb fun K3 hK3 => ?_
 refine Ze ?_ ?_ <;> intro hb
 ·have hlt : i < q.fams.length := by have := of_decide_eq_true hb; omega
  have hnth : nth (q.fams.map fun n => AV.int .i64 n) i = AV.int .i64 (q.fams.getD i 0) := ZF (fun n => AV.int .i64 n) q.fams _ hlt
  have hnth2 : nth (q.fams.map fun n => AV.int .i64 n) ((i : Int) - 1).toNat = AV.int .i64 (q.fams.getD (i - 1) 0) := by rw [show ((i : Int) - 1).toNat = i - 1 by omega]; exact ZF (fun n => AV.int .i64 n) q.fams _ (by omega)
  have hx : IntKind.i64.wrap ((i : Int) + 1) = ((i + 1 : Nat) : Int) := w1 (by omega)
  have hx2 : IntKind.i64.wrap ((i : Int) - 1) = (i : Int) - 1 := w64 (by omega) (by omega)
  refine Zd ?_
  simp only [go_sem, seval, Zt, Zq, Zr, bys]
  apply hK3
  clear hK3 K3
  refine Zb fun K4 hK4 => ?_
  refine Zj ?_
  refine Za zs [2, 3, 5, 6, 32, 33, 34] fun K Y => ?_
  simp only [go_sem, seval, Zt, Zq, Zr, bys, List.length_map, hnth, Int.toNat_natCast]
  repeat refine peel ?_
  apply Y; clear Y K
  refine Za zs [2, 3, 32, 33, 34, 61] fun K Y => ?_
  simp only [go_sem, seval, Zt, Zq, Zr, bys, List.length_map, f1, hnth2, hx2]
  repeat (first | refine peel ?_ | refine ⟨by (intro hx9; rcases Nat.eq_zero_or_pos i with q9 | q9; (rw [show decide ((0 : Int) < (i : Int)) = false from decide_eq_false (by omega)] at hx9; simp at hx9); first | exact ⟨by omega, by omega⟩ | omega), ?_⟩)
  apply Y; clear Y K
  refine Ze ?_ ?_ <;> intro hb
  ·have hf1 : fbad fs.length q.fams i = true := by unfold fbad; simp only [Int.natCast_pos] at hb; grind
   have hf : U1 fs.length q = false := by
     have : V5 fs.length q.fams = false := by unfold V5; rw [List.all_eq_false]; exact ⟨i, List.mem_range.2 hlt, by rw [hf1]; simp⟩
     unfold U1; rw [this]; simp
   refine Za zs [4] fun K Y => ?_
   simp only [go_sem, seval, Zt, Zq, Zr, bys]
   apply Y; clear Y K
   refine Zf ?_
   simp only [go_sem, seval, Zt, Zq, Zr, bys]
   first
   | exact ⟨_, rfl, fun k hk => by (try simp only [MF]); (repeat rw [if_neg (by omega)]), X9 hf.symm⟩
   | (refine ⟨_, rfl, fun k hk => by (try simp only [MF]); (repeat rw [if_neg (by omega)]), X9 ?_⟩
      have hfu : V5 fs.length q.fams = true := by unfold V5; rw [List.all_eq_true]; intro j hj; rw [hno j (by have := List.mem_range.1 hj; omega)]; rfl
      unfold U1 fits3
      rw [h1, hfu]
      have e1 : decide ((q.pre.length : Int) ≤ 256) = decide (q.pre.length ≤ 256) := decide_eq_decide.2 (by omega)
      rw [e1]
      simp only [Bool.cond_false_right, Bool.not_false, Bool.true_and])
  have hf1 : fbad fs.length q.fams i = false := by unfold fbad; simp only [Int.natCast_pos] at hb; grind
  refine Zd ?_
  simp only [go_sem, seval, Zt, Zq, Zr, bys]
  apply hK4
  clear hK4 K4
  refine Zl zs [2, 3, 32, 33, 34] fun K Y => ?_
  simp only [go_sem, seval, Zt, Zq, Zr, bys, hx]
  apply Y; clear Y K
  simp only [go_sem, seval, Zt, Zq, Zr, bys]
  exact ⟨⟨i + 1, by omega, fun j hj => by rcases Nat.lt_or_ge j i with q9 | q9; exact hno j q9; (obtain rfl : j = i := by omega); exact hf1, by simp [Zr]⟩, by omega⟩
 have hge : i = q.fams.length := by have := of_decide_eq_false hb; omega
 refine ZA ?_
 simp only [go_sem, seval, Zt, Zq, Zr, bys]
 apply hK2
 refine Za zs [4] fun K Y => ?_
 simp only [go_sem, seval, List.length_map]
 repeat refine peel ?_
 apply Y; clear Y K
 refine Zf ?_
 simp only [go_sem, seval]
 first
 | exact ⟨_, rfl, fun k hk => by (try simp only [MF]); (repeat rw [if_neg (by omega)]), X9 hf.symm⟩
 | (refine ⟨_, rfl, fun k hk => by (try simp only [MF]); (repeat rw [if_neg (by omega)]), X9 ?_⟩
    have hfu : V5 fs.length q.fams = true := by unfold V5; rw [List.all_eq_true]; intro j hj; rw [hno j (by have := List.mem_range.1 hj; omega)]; rfl
    unfold U1 fits3
    rw [h1, hfu]
    have e1 : decide ((q.pre.length : Int) ≤ 256) = decide (q.pre.length ≤ 256) := decide_eq_decide.2 (by omega)
    rw [e1]
    simp only [Bool.cond_false_right, Bool.not_false, Bool.true_and])
theorem Mw (x : Int) : 0 ≤ intBits .and .u8 x 15 ∧ intBits .and .u8 x 15 < 16 := by
 have h : intBits .and .u8 x 15 = (((BitVec.ofInt 8 x) &&& 15#8).toNat : Int) := by
   show IntKind.u8.wrap (((BitVec.ofInt 8 x) &&& (BitVec.ofInt 8 15)).toNat : Int) = _
   rw [IntKind.wrap_u8, show BitVec.ofInt 8 15 = 15#8 by decide]
   have := ((BitVec.ofInt 8 x) &&& 15#8).isLt
   omega
 have h2 : ((BitVec.ofInt 8 x) &&& 15#8).toNat ≤ 15 := by rw [BitVec.toNat_and]; exact Nat.and_le_right
 omega
def tabQ (i : Int) : Int := UN.getD i.toNat 0
theorem nth_tab (x : Int) : nth Vx (intBits .and .u8 x 15).toNat = .int .u32 (tabQ (intBits .and .u8 x 15)) := by
 have h := Mw x
 unfold tabQ Vx
 exact ZF (fun n => AV.int .u32 n) UN _ (by rw [show UN.length = 16 from rfl]; omega)
def sumS (c : Int) (b : UInt8) : Int :=
 let c1 := intBits .xor .u32 (c.fdiv (2 ^ min 4 32)) (tabQ (intBits .and .u8 (intBits .xor .u8 (IntKind.u8.wrap c) b.toNat) 15))
 intBits .xor .u32 (c1.fdiv (2 ^ min 4 32)) (tabQ (intBits .and .u8 (intBits .xor .u8 (IntKind.u8.wrap c1) ((b.toNat : Int).fdiv (2 ^ min 4 8))) 15))
def sumP (c : Int) (b : List UInt8) : Int := b.foldl sumS c
def sumF (parts : List (List UInt8)) : Int := intBits .xor .u32 4294967295 (parts.foldl sumP 4294967295)
def lowB (v : Int) : List UInt8 := [ZW v, ZW (v / 256), ZW (v / 65536), ZW (v / 16777216)]
theorem VK (parts : List (List UInt8)) (hp : parts.length ≤ 1048576) (hbs : ∀ b ∈ parts, b.length ≤ 1099511627776) {H : Heap} {n : Nat} (hG : GOK 0 2 H n) : Ret prog 165 [.sl 1 (parts.map bys)] H n (.int .u32 (sumF parts)) H n := by
 have hT := hG.table
 refine Zc func165 rfl ntmps165 (congrArg Array.toList results165) (by simp) ?_
 simp only [go_sem]
 refine Za zs [0] fun K Y => ?_
 simp only [go_sem, seval]
 apply Y; clear Y K
 refine Za zs [0, 3] fun K Y => ?_
 simp only [go_sem, seval]
 apply Y; clear Y K
 refine Zb fun K1 hK1 => ?_
 refine Za zs [3, 8, 9, 10] fun K Y => ?_
 simp only [go_sem, seval, List.length_map]
 apply Y; clear Y K
 refine Zj ?_
 refine Zz (fun T' H' n' => ∃ i : Nat, i ≤ parts.length ∧ T' = tl [(3, .int .u32 ((parts.take i).foldl sumP 4294967295)), (8, .sl 1 (parts.map bys)), (9, .int .i64 parts.length), (10, .int .i64 i)] ∧ H = H' ∧ n = n') (fun T' _ _ => parts.length - iv (T' 10)) ?_ ?_
 ·exact ⟨0, Nat.zero_le _, rfl, rfl, rfl⟩
 intro T1 H1 n1
 rintro ⟨i, hi, rfl, rfl, rfl⟩
 refine Za zs [3, 8, 9, 10, 11] fun K Y => ?_
 simp only [go_sem, seval]
 apply Y; clear Y K
 refine Zb fun K2 hK2 => ?_
 refine Ze ?_ ?_ <;> intro hb
 ·have hlt : i < parts.length := by have := of_decide_eq_true hb; omega
  have hnth : nth (parts.map bys) i = bys (parts.getD i []) := ZF bys parts _ hlt
  have hx : IntKind.i64.wrap ((i : Int) + 1) = ((i + 1 : Nat) : Int) := w1 (by omega)
  have hm : parts.getD i [] ∈ parts := by rw [show parts.getD i [] = parts[i] by simp [List.getD, hlt]]; exact List.getElem_mem hlt
  obtain ⟨b, hbd⟩ : ∃ b, b = parts.getD i [] := ⟨_, rfl⟩
  rw [← hbd] at hnth hm
  have hbl := hbs b hm
  refine Zd ?_
  simp only [go_sem, seval]
  apply hK2
  clear hK2 K2
  refine Zb fun K3 hK3 => ?_
  refine Zj ?_
  refine Za zs [3, 5, 8, 9, 10] fun K Y => ?_
  simp only [go_sem, seval, List.length_map, hnth, Int.toNat_natCast]
  repeat refine peel ?_
  apply Y; clear Y K
  refine Za zs [3, 8, 9, 10, 14, 15, 16] fun K Y => ?_
  simp only [go_sem, seval, List.length_map]
  apply Y; clear Y K
  refine Zj ?_
  refine Zz (fun T' H' n' => ∃ j : Nat, j ≤ b.length ∧ T' = tl [(3, .int .u32 (sumP ((parts.take i).foldl sumP 4294967295) (b.take j))), (8, .sl 1 (parts.map bys)), (9, .int .i64 parts.length), (10, .int .i64 i), (14, bys b), (15, .int .i64 b.length), (16, .int .i64 j)] ∧ H = H' ∧ n = n') (fun T' _ _ => b.length - iv (T' 16)) ?_ ?_
  ·exact ⟨0, Nat.zero_le _, rfl, rfl, rfl⟩
  intro T1 H1 n1
  rintro ⟨j, hj, rfl, rfl, rfl⟩
  refine Za zs [3, 8, 9, 10, 14, 15, 16, 17] fun K Y => ?_
  simp only [go_sem, seval]
  apply Y; clear Y K
  refine Zb fun K4 hK4 => ?_
  refine Ze ?_ ?_ <;> intro hb
  ·have hltj : j < b.length := by have := of_decide_eq_true hb; omega
   have hntj : nth (b.map Zn) j = Zn (b.getD j 0) := ZF Zn b _ hltj
   have hxj : IntKind.i64.wrap ((j : Int) + 1) = ((j + 1 : Nat) : Int) := w1 (by omega)
   have hst : sumP ((parts.take i).foldl sumP 4294967295) (b.take (j + 1)) = sumS (sumP ((parts.take i).foldl sumP 4294967295) (b.take j)) (b.getD j 0) := by unfold sumP; rw [List.take_succ_eq_append_getElem hltj, List.foldl_append]; simp [List.getD, hltj]
   generalize hcc : sumP ((parts.take i).foldl sumP 4294967295) (b.take j) = c at hst
   refine Zd ?_
   simp only [go_sem, seval]
   apply hK4
   clear hK4 K4
   refine Zb fun K5 hK5 => ?_
   refine Zj ?_
   refine Za zs [3, 7, 8, 9, 10, 14, 15, 16] fun K Y => ?_
   simp only [go_sem, seval, List.length_map, hntj, Int.toNat_natCast]
   repeat refine peel ?_
   apply Y; clear Y K
   refine Za zs [3, 7, 8, 9, 10, 14, 15, 16] fun K Y => ?_
   simp only [go_sem, seval, hT, nth_tab]
   repeat (first | refine peel ?_ | refine ⟨by exact ⟨(Mw _).1, (Mw _).2, rfl⟩, ?_⟩)
   apply Y; clear Y K
   refine Zl zs [3, 8, 9, 10, 14, 15, 16] fun K Y => ?_
   simp only [go_sem, seval, hT, nth_tab]
   repeat (first | refine peel ?_ | refine ⟨by exact ⟨(Mw _).1, (Mw _).2, rfl⟩, ?_⟩)
   apply Y; clear Y K
   simp only [go_sem, seval]
   apply hK5
   clear hK5 K5
   refine Zl zs [3, 8, 9, 10, 14, 15, 16] fun K Y => ?_
   simp only [go_sem, seval]
   apply Y; clear Y K
   simp only [go_sem, seval]
   refine ⟨⟨j + 1, by omega, ?_⟩, by rw [hxj]; omega⟩
   rw [hxj]
   rw [hst]; rfl
  refine ZA ?_
  simp only [go_sem, seval]
  apply hK3
  refine Zl zs [3, 8, 9, 10] fun K Y => ?_
  simp only [go_sem, seval]
  apply Y; clear Y K
  simp only [go_sem, seval]
  have hgj : b.length ≤ j := by have := of_decide_eq_false hb; omega
  refine ⟨⟨i + 1, by omega, ?_⟩, by rw [hx]; omega⟩
  rw [hx, List.take_of_length_le hgj, List.take_succ_eq_append_getElem hlt, List.foldl_append, hbd]
  simp [List.getD, hlt]
 have hge : i = parts.length := by have := of_decide_eq_false hb; omega
 refine ZA ?_
 simp only [go_sem, seval]
 apply hK1
 refine Za zs [2] fun K Y => ?_
 simp only [go_sem, seval]
 apply Y; clear Y K
 refine Zf ?_
 simp only [go_sem, seval]
 rw [hge, List.take_length]; rfl
theorem fdiv8 (v : Int) : v.fdiv (2 ^ min 8 32) = v / 256 := by rw [show (2 : Int) ^ min 8 32 = 256 by decide, Int.fdiv_eq_ediv_of_nonneg _ (by decide)]
theorem fdiv16 (v : Int) : v.fdiv (2 ^ min 16 32) = v / 65536 := by rw [show (2 : Int) ^ min 16 32 = 65536 by decide, Int.fdiv_eq_ediv_of_nonneg _ (by decide)]
theorem fdiv24 (v : Int) : v.fdiv (2 ^ min 24 32) = v / 16777216 := by rw [show (2 : Int) ^ min 24 32 = 16777216 by decide, Int.fdiv_eq_ediv_of_nonneg _ (by decide)]
theorem c_wire_low0 (v : Int) (H : Heap) (n : Nat) : Ret prog 189 [.nilsl, .int .u32 v] H n (bys (lowB v)) H n := by
 refine Ret.fin ?_
 refine Zc func189 rfl ntmps189 (congrArg Array.toList results189) (by simp) ?_
 simp only [go_sem]
 refine Za zs [0, 1] fun K Y => ?_
 simp only [go_sem, seval]
 apply Y; clear Y K
 refine Yb 0 1 rfl ?_
 simp only [go_sem, seval]
 refine Za zs [4] fun K Y => ?_
 simp only [go_sem, seval, fdiv8, fdiv16, fdiv24, Y3]
 repeat (first | refine peel ?_ | refine ⟨by exact ⟨rfl, by simp [Zn, AV.sz, AV.memOK]⟩, ?_⟩)
 apply Y; clear Y K
 refine Zf ?_
 simp only [go_sem, seval]
 exact ⟨_, rfl, fun k hk => by rw [if_neg (by omega)], .osl (MG _ _ _) (Nat.le_refl _) (by simp) (YA _ (ZJ (lowB v) _))⟩
theorem LJ (v : Int) (b : List UInt8) (hb : b.length ≤ 1099511627776) (k ver : Nat) {H : Heap} {n : Nat} (hk : H k = some (.arr ver 1 (b.map Zn))) : Ret prog 189 [.osl k ver 0 b.length, .int .u32 v] H n (.osl k (ver + 1) 0 (b ++ lowB v).length) (H.put k (some (.arr (ver + 1) 1 ((b ++ lowB v).map Zn)))) n := by
 have e1 : List.take b.length (List.map Zn b) = List.map Zn b := List.take_of_length_le (by simp)
 refine Zc func189 rfl ntmps189 (congrArg Array.toList results189) (by simp) ?_
 simp only [go_sem]
 refine Za zs [0, 1] fun K Y => ?_
 simp only [go_sem, seval]
 apply Y; clear Y K
 refine Za zs [4] fun K Y => ?_
 simp only [go_sem, seval, hk, e1, List.length_map, fdiv8, fdiv16, fdiv24, Y3]
 repeat (first | refine peel ?_ | (refine And.intro ?_ ?_; · first | exact ⟨rfl, by simp [Zn, AV.sz, AV.memOK]⟩ | exact ⟨by omega, .inr trivial, by omega, by omega⟩))
 apply Y; clear Y K
 refine Zf ?_
 simp only [go_sem, seval]
 refine ⟨by simp [lowB], by rw [List.map_append]; rfl⟩
theorem c_wire_is (b : List UInt8) (p : Nat) (v : Int) (hp : p + 4 ≤ b.length) (hb : b.length ≤ 1099511627776) (H : Heap) (n : Nat) : Ret prog 164 [bys b, .int .i64 p, .int .u32 v] H n (.bool ((b.drop p).take 4 == lowB v)) H n := by
 have e1 : IntKind.i64.wrap ((p : Int) + 4) = ((p + 4 : Nat) : Int) := by rw [w64 (by omega) (by omega)]; omega
 have e2 : List.drop p (List.take (p + 4) (b.map Zn)) = ((b.drop p).take 4).map Zn := by rw [List.take_add, List.drop_append_of_le_length (by simp; omega), List.drop_take_self, List.nil_append, ← List.map_drop, ← List.map_take]
 refine Zc func164 rfl ntmps164 (congrArg Array.toList results164) (by simp) ?_
 simp only [go_sem]
 refine Za zs [0, 1, 2] fun K Y => ?_
 simp only [go_sem, seval]
 apply Y; clear Y K
 refine YJ rfl zs [6] [.m, .m, .m, .q, .q, .m, .c, .c, .q] (by kernel_rfl) (fun _ _ _ _ _ h => h) fun K Y => ?_
 simp only [go_sem, seval, e1, e2, List.length_map, Option.getD_some, Int.toNat_natCast]
 repeat (first | refine peel ?_ | refine ⟨by exact ⟨by omega, by omega, by omega, fun m h => h.elim⟩, ?_⟩)
 refine ZR func189 rfl rfl rfl (fun _ n => (c_wire_low0 v _ _)) ?_
 simp only [go_sem, seval]
 refine ZR func77 rfl rfl rfl (fun _ n => (Yk ((b.drop p).take 4) (lowB v) _ _)) ?_
 simp only [go_sem, seval]
 apply Y; clear Y K
 refine Zf ?_
 simp only [go_sem, seval]
def HQ : Heap := fun k => if k = 0 then some (.glob 5 XX) else if k = 2 then some (.glob 1 Vx) else none
theorem gok_HQ {n : Nat} (h1 : 0 < n) (h2 : 2 < n) : GOK 0 2 HQ n := ⟨rfl, rfl, h1, h2⟩
theorem globs_HQ {H : Heap} {n : Nat} (hG : GOK 0 2 H n) : Globs H HQ := fun k o h => by
 unfold HQ at h
 split at h
 ·rename_i e; subst e; cases h
  exact ⟨hG.kinds, 5, XX, rfl, Xl (fun i : Nat => Zo i) (fun _ => ⟨trivial, trivial, trivial, trivial, trivial, trivial⟩) _⟩
 ·split at h
  ·rename_i e; subst e; cases h
   exact ⟨hG.table, 1, Vx, rfl, Xl (fun n : Int => .int .u32 n) (fun _ => trivial) _⟩
  ·cases h
theorem c_Sum_osl (b : List UInt8) (hb : b.length ≤ 1099511627776) {k ver : Nat} {H : Heap} {n : Nat} (hG : GOK 0 2 H n) (hk : H k = some (.arr ver 1 (b.map Zn))) : Ret prog 165 [.sl 1 [.osl k ver 0 b.length]] H n (.int .u32 (sumF [b])) H n :=
 Ret.lendQ (H0 := HQ) (args' := [.sl 1 ([b].map bys)]) (globs_HQ hG) (.cons (.sl (.cons (.osl hk (Nat.zero_le _) (by simp) (by rw [List.drop_zero, List.take_of_length_le (by simp)]; exact YA _ (ZJ _ _))) .nil)) .nil) trivial
   (VK [b] (by simp) (fun x hx => by rw [List.mem_singleton.1 hx]; exact hb) (gok_HQ hG.gek hG.get))
def Wp (n : Nat) : List UInt8 := [ZW ((n : Int) / 16777216), ZW ((n : Int) / 65536), ZW ((n : Int) / 256), ZW (n : Int)]
def frameB (b : List UInt8) : List UInt8 := Wp b.length ++ lowB (sumF [Wp b.length]) ++ b ++ lowB (sumF [b])
theorem fdiv8' (v : Int) : v.fdiv (2 ^ min 8 64) = v / 256 := by rw [show (2 : Int) ^ min 8 64 = 256 by decide, Int.fdiv_eq_ediv_of_nonneg _ (by decide)]
theorem fdiv16' (v : Int) : v.fdiv (2 ^ min 16 64) = v / 65536 := by rw [show (2 : Int) ^ min 16 64 = 65536 by decide, Int.fdiv_eq_ediv_of_nonneg _ (by decide)]
theorem fdiv24' (v : Int) : v.fdiv (2 ^ min 24 64) = v / 16777216 := by rw [show (2 : Int) ^ min 24 64 = 16777216 by decide, Int.fdiv_eq_ediv_of_nonneg _ (by decide)]
theorem c_wire_Frame (b : List UInt8) (hb : b.length ≤ 1048576) {H : Heap} {n : Nat} (hG : GOK 0 2 H n) : Ret prog 166 [bys b] H n (.tup [bys (frameB b), .int .i64 0]) H n := by
 have hG0 := hG
 have hl8 : (Wp b.length ++ lowB (sumF [Wp b.length])).length = 8 := rfl
 have e8 : List.take (Wp b.length ++ lowB (sumF [Wp b.length])).length (List.map Zn (Wp b.length ++ lowB (sumF [Wp b.length]))) = List.map Zn (Wp b.length ++ lowB (sumF [Wp b.length])) := List.take_of_length_le (by simp)
 have e0 : IntKind.i64.wrap ((b.length : Int) + 12) = ((b.length + 12 : Nat) : Int) := by rw [w64 (by omega) (by omega)]; omega
 refine Ret.fin ?_
 refine Zc func166 rfl ntmps166 (congrArg Array.toList results166) (by simp) ?_
 simp only [go_sem]
 refine Za zs [0] fun K Y => ?_
 simp only [go_sem, seval]
 apply Y; clear Y K
 refine Za zs [0, 4] fun K Y => ?_
 simp only [go_sem, seval, List.length_map]
 apply Y; clear Y K
 refine Zb fun K1 hK1 => ?_
 refine Za zs [0, 4, 9] fun K Y => ?_
 simp only [go_sem, seval]
 apply Y; clear Y K
 refine Ze ?_ ?_ <;> intro hb
 ·exact absurd (of_decide_eq_true hb) (by omega) --dead
 refine Zd ?_
 simp only [go_sem, seval]
 apply hK1
 clear hK1 K1
 refine Za zs [0, 5] fun K Y => ?_
 simp only [go_sem, seval, fdiv8', fdiv16', fdiv24', Y3, e0]
 repeat (first | refine peel ?_ | refine ⟨by exact ⟨rfl, by simp [Zn, AV.sz, AV.memOK]⟩, ?_⟩)
 apply Y; clear Y K
 refine Yh (fun H' n' => H' n = some (.arr 1 1 ((Wp b.length).map Zn)) ∧ GOK 0 2 H' n' ∧ (∀ k, k < n → H' k = H k) ∧ n' = n + 1) ⟨MG _ _ _, hG.on (fun k hk => ME _ _ (by omega)) (by omega), fun k hk => ME _ _ (by omega), rfl⟩ fun H1 n1 ⟨r1, hG, hl1, hn1⟩ => ?_
 subst hn1
 refine Za zs [0, 5] fun K Y => ?_
 simp only [go_sem, seval]
 repeat (first | refine peel ?_ | refine ⟨by exact ⟨rfl, by simp [Zn, AV.sz, AV.memOK]⟩, ?_⟩)
 refine Zg func165 rfl rfl rfl ((c_Sum_osl (Wp b.length) (by simp [Wp]) hG r1)) ?_
 refine Zg func189 rfl rfl rfl ((LJ (sumF [Wp b.length]) (Wp b.length) (by simp [Wp]) n 1 r1)) ?_
 simp only [go_sem, seval, List.length_map, e8]
 repeat (first | refine peel ?_ | refine ⟨by exact ⟨by omega, .inr trivial, by rw [hl8]; omega, by rw [hl8]; omega⟩, ?_⟩)
 apply Y; clear Y K
 refine Yh (fun H' n' => H' n = some (.arr 3 1 ((Wp b.length ++ lowB (sumF [Wp b.length]) ++ b).map Zn)) ∧ GOK 0 2 H' n' ∧ (∀ k, k < n → H' k = H k) ∧ n' = n + 1) ⟨by simp only [MG, List.map_append], hG0.on (fun k hk => (ME _ _ (by omega)).trans (hl1 k hk)) (by omega), fun k hk => (ME _ _ (by omega)).trans (hl1 k hk), rfl⟩ fun H2 n2 ⟨r2, hG, hl2, hn2⟩ => ?_
 subst hn2
 rw [← List.length_append]
 refine Za zs [2, 3] fun K Y => ?_
 simp only [go_sem, seval]
 repeat (first | refine peel ?_ | refine ⟨by exact ⟨rfl, by simp [Zn, AV.sz, AV.memOK]⟩, ?_⟩)
 refine Zg func165 rfl rfl rfl ((VK [b] (by simp) (fun x hx => by rw [List.mem_singleton.1 hx]; omega) hG)) ?_
 refine Zg func189 rfl rfl rfl ((LJ (sumF [b]) (Wp b.length ++ lowB (sumF [Wp b.length]) ++ b) (by rw [List.length_append, hl8]; omega) n 3 r2)) ?_
 simp only [go_sem, seval]
 apply Y; clear Y K
 refine Zf ?_
 simp only [go_sem, seval]
 exact ⟨_, rfl, fun k hk => by rw [if_neg (by omega)]; exact hl2 k hk, .tup (.cons (.osl (MG _ _ _) (Nat.le_refl _) (by simp) (by rw [List.drop_zero, List.take_of_length_le (by simp)]; exact YA _ (ZJ (frameB b) _))) (.cons (.kl trivial) .nil))⟩
theorem or_nat {x y : Nat} (hx : x < 9223372036854775808) (hy : y < 9223372036854775808) : intBits .or .i64 (x : Int) (y : Int) = ((x ||| y : Nat) : Int) ∧ x ||| y < 9223372036854775808 := by
 have h3 : x ||| y < 9223372036854775808 := Nat.or_lt_two_pow (n := 63) hx hy
 refine ⟨?_, h3⟩
 show IntKind.i64.wrap (((BitVec.ofInt 64 (x : Int)) ||| (BitVec.ofInt 64 (y : Int))).toNat : Int) = _
 rw [BitVec.ofInt_natCast, BitVec.ofInt_natCast, BitVec.toNat_or, BitVec.toNat_ofNat, BitVec.toNat_ofNat, Nat.mod_eq_of_lt (by omega), Nat.mod_eq_of_lt (by omega), w64 (by omega) (by omega)]
def hd4 (b : List UInt8) : Nat := (((b.getD 0 0).toNat * 16777216 ||| (b.getD 1 0).toNat * 65536) ||| (b.getD 2 0).toNat * 256) ||| (b.getD 3 0).toNat
theorem hd4_int (b : List UInt8) : intBits .or .i64 (intBits .or .i64 (intBits .or .i64 (IntKind.i64.wrap (IntKind.i64.wrap ((b.getD 0 0).toNat : Int) * 2 ^ min 24 64)) (IntKind.i64.wrap (IntKind.i64.wrap ((b.getD 1 0).toNat : Int) * 2 ^ min 16 64))) (IntKind.i64.wrap (IntKind.i64.wrap ((b.getD 2 0).toNat : Int) * 2 ^ min 8 64))) (IntKind.i64.wrap ((b.getD 3 0).toNat : Int)) = ((hd4 b : Nat) : Int) ∧ hd4 b < 9223372036854775808 := by
 have a0 := (b.getD 0 0).toNat_lt
 have a1 := (b.getD 1 0).toNat_lt
 have a2 := (b.getD 2 0).toNat_lt
 have a3 := (b.getD 3 0).toNat_lt
 unfold hd4
 generalize (b.getD 0 0).toNat = x0 at *
 generalize (b.getD 1 0).toNat = x1 at *
 generalize (b.getD 2 0).toNat = x2 at *
 generalize (b.getD 3 0).toNat = x3 at *
 have e0 : IntKind.i64.wrap (IntKind.i64.wrap (x0 : Int) * 2 ^ min 24 64) = ((x0 * 16777216 : Nat) : Int) := by rw [w64 (n := (x0 : Int)) (by omega) (by omega), show (2 : Int) ^ min 24 64 = 16777216 by decide, w64 (by omega) (by omega)]; omega
 have e1 : IntKind.i64.wrap (IntKind.i64.wrap (x1 : Int) * 2 ^ min 16 64) = ((x1 * 65536 : Nat) : Int) := by rw [w64 (n := (x1 : Int)) (by omega) (by omega), show (2 : Int) ^ min 16 64 = 65536 by decide, w64 (by omega) (by omega)]; omega
 have e2 : IntKind.i64.wrap (IntKind.i64.wrap (x2 : Int) * 2 ^ min 8 64) = ((x2 * 256 : Nat) : Int) := by rw [w64 (n := (x2 : Int)) (by omega) (by omega), show (2 : Int) ^ min 8 64 = 256 by decide, w64 (by omega) (by omega)]; omega
 have e3 : IntKind.i64.wrap (x3 : Int) = (x3 : Int) := w64 (by omega) (by omega)
 rw [e0, e1, e2, e3]
 obtain ⟨h1, h2⟩ := or_nat (x := x0 * 16777216) (y := x1 * 65536) (by omega) (by omega)
 obtain ⟨h3, h4⟩ := or_nat (x := x0 * 16777216 ||| x1 * 65536) (y := x2 * 256) h2 (by omega)
 obtain ⟨h5, h6⟩ := or_nat (x := x0 * 16777216 ||| x1 * 65536 ||| x2 * 256) (y := x3) h4 (by omega)
 rw [h1, h3, h5]
 exact ⟨rfl, h6⟩
def rfN (b : List UInt8) (N : Nat) : List UInt8 × Int × Int :=
 if b.length < 8 then ([], 0, 10)
 else if ((b.drop 4).take 4 == lowB (sumF [b.take 4])) = false then ([], 0, 12)
 else if 1048576 < N then ([], 0, 13)
 else if b.length - 8 < N + 4 then ([], 0, 10)
 else if ((b.drop (8 + N)).take 4 == lowB (sumF [(b.drop 8).take (N)])) = false then ([], 0, 12)
 else ((b.drop 8).take (N), ((8 + N + 4 : Nat) : Int), 0)
def rfQ (b : List UInt8) : List UInt8 × Int × Int := rfN b (hd4 b)
set_option maxHeartbeats 1600000 in
theorem Kb (b : List UInt8) (hb9 : b.length ≤ 1099511627776) {H : Heap} {n : Nat} (hG : GOK 0 2 H n) : Ret prog 143 [bys b, .int .i64 0] H n (.tup [bys (rfQ b).1, .int .i64 (rfQ b).2.1, .int .i64 (rfQ b).2.2]) H n := by
 obtain ⟨N, hNd⟩ : ∃ N, N = hd4 b := ⟨_, rfl⟩
 obtain ⟨hNi, hN⟩ := hd4_int b
 rw [← hNd] at hNi hN
 have hrf : rfQ b = rfN b N := by rw [hNd]; unfold rfQ; rfl
 rw [hrf]
 clear hrf hNd
 have k1 : IntKind.i64.wrap 1 = 1 := by decide
 have k2 : IntKind.i64.wrap 2 = 2 := by decide
 have k3 : IntKind.i64.wrap 3 = 3 := by decide
 have k4 : IntKind.i64.wrap 4 = 4 := by decide
 have k8 : IntKind.i64.wrap 8 = 8 := by decide
 have m1 : (1 : Int).toNat = 1 := rfl
 have m2 : (2 : Int).toNat = 2 := rfl
 have m3 : (3 : Int).toNat = 3 := rfl
 have m4 : (4 : Int).toNat = 4 := rfl
 refine Ret.fin ?_
 refine Zc func143 rfl ntmps143 (congrArg Array.toList results143) (by simp) ?_
 simp only [go_sem]
 refine Za zs [0, 1] fun K Y => ?_
 simp only [go_sem, seval]
 apply Y; clear Y K
 refine Zb fun K1 hK1 => ?_
 refine Zj ?_
 refine Za zs [0, 1, 9] fun K Y => ?_
 simp only [go_sem, seval]
 refine Zg func155 rfl rfl rfl ((VJ b 0 _ _)) ?_
 simp only [go_sem, seval]
 apply Y; clear Y K
 refine Ze ?_ ?_ <;> intro hb
 ·exact absurd (of_decide_eq_true hb) (by omega) --dead
 refine Za zs [0, 1, 13] fun K Y => ?_
 simp only [go_sem, seval, List.length_map]
 apply Y; clear Y K
 refine Ze ?_ ?_ <;> intro hb
 ·have h8 : b.length < 8 := by have := of_decide_eq_true hb; rw [w64 (by omega) (by omega)] at this; omega
  have hw : rfN b N = ([], 0, 10) := by unfold rfN; rw [if_pos h8]
  refine Za zs [4, 5, 6] fun K Y => ?_
  simp only [go_sem, seval]
  apply Y; clear Y K
  refine Zf ?_
  simp only [go_sem, seval]
  rw [hw]
  exact ⟨_, rfl, .tup (.cons .nilsl (.cons (.kl trivial) (.cons (.kl trivial) .nil)))⟩
 have h8 : 8 ≤ b.length := by have := of_decide_eq_false hb; rw [w64 (by omega) (by omega)] at this; omega
 have e2 : List.take 4 (b.map Zn) = (b.take 4).map Zn := by rw [List.map_take]
 have n0 : nth (b.map Zn) 0 = Zn (b.getD 0 0) := ZF Zn b _ (by omega)
 have n1 : nth (b.map Zn) 1 = Zn (b.getD 1 0) := ZF Zn b _ (by omega)
 have n2 : nth (b.map Zn) 2 = Zn (b.getD 2 0) := ZF Zn b _ (by omega)
 have n3 : nth (b.map Zn) 3 = Zn (b.getD 3 0) := ZF Zn b _ (by omega)
 refine Za zs [0, 1, 19] fun K Y => ?_
 simp only [go_sem, seval, List.length_map, e2, k4, m4, Option.getD_some]
 repeat (first | refine peel ?_ | (refine And.intro ?_ ?_; · first | exact ⟨by omega, fun m h => h.elim⟩ | exact ⟨rfl, by simp [AV.sz, AV.memOK]⟩))
 refine Zg func165 rfl rfl rfl ((VK [b.take 4] (by simp) (fun x hx => by rw [List.mem_singleton.1 hx, List.length_take]; omega) hG)) ?_
 refine Zg func164 rfl rfl rfl ((c_wire_is b 4 (sumF [b.take 4]) (by omega) hb9 _ _)) ?_
 simp only [go_sem, seval]
 apply Y; clear Y K
 refine Ze ?_ ?_ <;> intro hb
 ·have hw : rfN b N = ([], 0, 12) := by unfold rfN; rw [if_neg (by omega), if_pos (by simpa using hb)]
  refine Za zs [4, 5, 6] fun K Y => ?_
  simp only [go_sem, seval]
  apply Y; clear Y K
  refine Zf ?_
  simp only [go_sem, seval]
  rw [hw]
  exact ⟨_, rfl, .tup (.cons .nilsl (.cons (.kl trivial) (.cons (.kl trivial) .nil)))⟩
 have hs1 : ((b.drop 4).take 4 == lowB (sumF [b.take 4])) = true := by simpa using hb
 refine Zd ?_
 simp only [go_sem, seval]
 apply hK1
 clear hK1 K1
 refine YJ rfl zs [0, 1, 7] [.m, .m, .q, .q, .q, .q, .m, .m, .q, .q, .q, .q, .q, .q, .m, .m, .q, .q, .q, .q, .q, .q, .m, .m, .q, .q, .q, .q, .q, .q] (by kernel_rfl) (fun _ _ _ _ _ h => h) fun K Y => ?_
 simp only [go_sem, seval, List.length_map, hNi, n0, n1, n2, n3, k1, k2, k3, m1, m2, m3]
 repeat refine peel ?_
 apply Y; clear Y K
 refine Za zs [0, 1, 7] fun K Y => ?_
 simp only [go_sem, seval, k8]
 apply Y; clear Y K
 refine Zb fun K2 hK2 => ?_
 refine Zj ?_
 refine Za zs [0, 1, 7, 63] fun K Y => ?_
 simp only [go_sem, seval]
 apply Y; clear Y K
 refine Ze ?_ ?_ <;> intro hb
 ·have hw : rfN b N = ([], 0, 13) := by unfold rfN; rw [if_neg (by omega), if_neg (by rw [hs1]; simp), if_pos (by have := of_decide_eq_true hb; omega)]
  refine Za zs [4, 5, 6] fun K Y => ?_
  simp only [go_sem, seval]
  apply Y; clear Y K
  refine Zf ?_
  simp only [go_sem, seval]
  rw [hw]
  exact ⟨_, rfl, .tup (.cons .nilsl (.cons (.kl trivial) (.cons (.kl trivial) .nil)))⟩
 have hN2 : ¬ 1048576 < N := by have := of_decide_eq_false hb; omega
 have j1 : IntKind.i64.wrap ((b.length : Int) - 8) = ((b.length - 8 : Nat) : Int) := by rw [w64 (by omega) (by omega)]; omega
 have j2 : IntKind.i64.wrap ((N : Int) + 4) = ((N + 4 : Nat) : Int) := by rw [w64 (by omega) (by omega)]; omega
 have j3 : IntKind.i64.wrap (8 + (N : Int)) = ((8 + N : Nat) : Int) := by rw [w64 (by omega) (by omega)]; omega
 have j4 : IntKind.i64.wrap (((8 + N : Nat) : Int) + 4) = ((8 + N + 4 : Nat) : Int) := by rw [w64 (by omega) (by omega)]; omega
 refine Za zs [0, 1, 7, 66] fun K Y => ?_
 simp only [go_sem, seval, List.length_map, j1, j2]
 apply Y; clear Y K
 refine Ze ?_ ?_ <;> intro hb
 ·have hw : rfN b N = ([], 0, 10) := by unfold rfN; rw [if_neg (by omega), if_neg (by rw [hs1]; simp), if_neg hN2, if_pos (by have := of_decide_eq_true hb; omega)]
  refine Za zs [4, 5, 6] fun K Y => ?_
  simp only [go_sem, seval]
  apply Y; clear Y K
  refine Zf ?_
  simp only [go_sem, seval]
  rw [hw]
  exact ⟨_, rfl, .tup (.cons .nilsl (.cons (.kl trivial) (.cons (.kl trivial) .nil)))⟩
 have hL : ¬ b.length - 8 < N + 4 := by have := of_decide_eq_false hb; omega
 have m8 : (8 : Int).toNat = 8 := rfl
 have e5 : List.drop 8 (List.take (8 + N) (b.map Zn)) = ((b.drop 8).take (N)).map Zn := by rw [List.take_add, List.drop_append_of_le_length (by simp; omega), List.drop_take_self, List.nil_append, ← List.map_drop, ← List.map_take]
 refine Zd ?_
 simp only [go_sem, seval]
 apply hK2
 clear hK2 K2
 refine Za zs [0, 1, 7, 8] fun K Y => ?_
 simp only [go_sem, seval, List.length_map, j3, m8, e5, Option.getD_some, Int.toNat_natCast]
 repeat (first | refine peel ?_ | refine ⟨by exact ⟨by omega, by omega, fun m h => h.elim⟩, ?_⟩)
 apply Y; clear Y K
 refine Zb fun K3 hK3 => ?_
 refine Za zs [1, 7, 8, 88] fun K Y => ?_
 simp only [go_sem, seval, j3]
 repeat (first | refine peel ?_ | refine ⟨by exact ⟨rfl, by simp [AV.sz, AV.memOK]⟩, ?_⟩)
 refine Zg func165 rfl rfl rfl ((VK [(b.drop 8).take (N)] (by simp) (fun x hx => by rw [List.mem_singleton.1 hx, List.length_take]; omega) hG)) ?_
 refine Zg func164 rfl rfl rfl ((c_wire_is b (8 + N) (sumF [(b.drop 8).take (N)]) (by omega) hb9 _ _)) ?_
 simp only [go_sem, seval]
 apply Y; clear Y K
 refine Ze ?_ ?_ <;> intro hb
 ·have hw : rfN b N = ([], 0, 12) := by unfold rfN; rw [if_neg (by omega), if_neg (by rw [hs1]; simp), if_neg hN2, if_neg hL, if_pos (by simpa using hb)]
  refine Za zs [4, 5, 6] fun K Y => ?_
  simp only [go_sem, seval]
  apply Y; clear Y K
  refine Zf ?_
  simp only [go_sem, seval]
  rw [hw]
  exact ⟨_, rfl, .tup (.cons .nilsl (.cons (.kl trivial) (.cons (.kl trivial) .nil)))⟩
 have hw : rfN b N = ((b.drop 8).take (N), ((8 + N + 4 : Nat) : Int), 0) := by unfold rfN; rw [if_neg (by omega), if_neg (by rw [hs1]; simp), if_neg hN2, if_neg hL, if_neg (by rw [show ((b.drop (8 + N)).take 4 == lowB (sumF [(b.drop 8).take (N)])) = true by simpa using hb]; simp)]
 refine Zd ?_
 simp only [go_sem, seval]
 apply hK3
 clear hK3 K3
 refine Za zs [4, 5, 6] fun K Y => ?_
 simp only [go_sem, seval, j3, j4]
 refine Zg func156 rfl rfl rfl ((QM ((b.drop 8).take (N)) (by rw [List.length_take]; omega) _ _)) ?_
 simp only [go_sem, seval]
 apply Y; clear Y K
 refine Zf ?_
 simp only [go_sem, seval]
 rw [hw]
 exact ⟨_, rfl, .kl ⟨ZJ _ _, trivial, trivial, trivial⟩⟩
def UJ (q : QryE) : List UInt8 := [if q.rev then 1 else 0] ++ Zp q.frm ++ Zp q.to ++ Zm (u64 q.fams.length) ++ (q.fams.flatMap fun f => Zm (u64 f)) ++ Zp q.pre ++ Zm (u64 q.time) ++ Zm (u64 q.n) ++ Zp q.whr
structure Qn (q : QryE) (H : Heap) (n ver M : Nat) (bs : List UInt8) (H' : Heap) (n' : Nat) : Prop where
 q : H' n = some (.arr 0 10 [Zq q])
 b : H' (n + 1) = some (.arr ver 1 (bs.map Zn))
 low : ∀ k, k < n → H' k = H k
 lt : n + 2 ≤ n'
 le : bs.length ≤ M
theorem Qn.app {q : QryE} {H : Heap} {n ver M : Nat} {bs : List UInt8} {H1 : Heap} {m : Nat} (h : Qn q H n ver M bs H1 m) (ys : List UInt8) {X : Option AObj} {zs : List AV} (hz : zs = ys.map Zn) {m' K : Nat} (hm : m ≤ m') (Y : M + ys.length ≤ K) :
   Qn q H n (ver + 1) K (bs ++ ys) ((H1.put m X).put (n + 1) (some (.arr (ver + 1) 1 (bs.map Zn ++ zs)))) m' where
 q := by rw [ME _ _ (by omega), ME _ _ (by have := h.lt; omega)]; exact h.q
 b := by rw [MG, List.map_append, hz]
 low := fun k hk => by rw [ME _ _ (by omega), ME _ _ (by have := h.lt; omega)]; exact h.low k hk
 lt := by have := h.lt; omega
 le := by have := h.le; rw [List.length_append]; omega
theorem Yp (b : List UInt8) : List.take b.length (List.map Zn b) = List.map Zn b := List.take_of_length_le (by simp)
set_option maxHeartbeats 3200000 in
theorem c_query_form (q : QryE) (h1 : q.frm.length ≤ 1048576) (h2 : q.to.length ≤ 1048576) (h3 : q.fams.length ≤ 1048576) (h4 : q.pre.length ≤ 1048576) (h5 : q.whr.length ≤ 1048576) (H : Heap) (n : Nat) : Ret prog 167 [Zq q] H n (bys (UJ q)) H n := by
 have hsz : (Zq q).sz = 10 := Yj q
 have hQ := hsz
 have hB := hsz
 have g1 := hsz
 have g2 := hsz
 have hnth := hsz
 have hx := hsz
 have f1 : (n = n + 1) = False := by simp
 have f2 : (n + 1 = n) = False := by simp
 refine Ret.fin ?_
 refine Zc func167 rfl ntmps167 (congrArg Array.toList results167) (by simp) ?_
 simp only [go_sem]
 refine Za zs [1] fun K Y => ?_
 simp only [go_sem, seval, Zq, Zr, bys]
 apply Y; clear Y K
 refine Za zo [1, 3] fun K Y => ?_
 simp only [go_sem, seval]
 repeat refine peel ?_
 apply Y; clear Y K
 refine Yi [1, 3] (fun T' H' n' => T' = tl [(1, .loc n 0 0 0 []), (3, .osl (n + 1) 0 0 1)] ∧ Qn q H n 0 1 [if q.rev then 1 else 0] H' n') ?_ ?_
 ·refine Za zs [1, 3, 8] fun K Y => ?_
  simp only [go_sem, seval, f1]
  apply Y; clear Y K
  refine Ze ?_ ?_ <;> intro hb
  ·refine Zl zs [1, 3] fun K Y => ?_
   simp only [go_sem, seval]
   apply Y; clear Y K
   simp only [go_sem, seval]
   exact ⟨ME _ _ (by omega) |>.trans (MG _ _ _), by rw [MG, hb]; rfl, fun k hk => by (try simp only [MF]); (repeat rw [if_neg (by omega)]), Nat.le_refl _, by simp⟩
  refine Zd ?_
  simp only [go_sem, seval]
  exact ⟨ME _ _ (by omega) |>.trans (MG _ _ _), by rw [MG, hb]; rfl, fun k hk => by (try simp only [MF]); (repeat rw [if_neg (by omega)]), Nat.le_refl _, by simp⟩
 rintro T1 H1 m ⟨rfl, hS⟩
 obtain ⟨b0, hb0⟩ : ∃ b, b = [if q.rev then (1 : UInt8) else 0] := ⟨_, rfl⟩
 rw [← hb0] at hS
 have hb1 : b0.length = 1 := by rw [hb0]; rfl
 rw [show AV.osl (n + 1) 0 0 1 = AV.osl (n + 1) 0 0 b0.length by rw [hb1]]
 have hQ := hS.q
 have hB := hS.b
 have hl := hS.lt
 have hle := hS.le
 have g1 : (n + 1 = m) = False := by simp; omega
 have g2 : (n = m) = False := by simp; omega
 have hy := ZL (v := q.frm.length) (by omega)
 have hz : (Zp q.frm).length = (Zm q.frm.length).length + q.frm.length := by simp [Zp]
 refine Za zs [1, 3] fun K Y => ?_
 simp only [go_sem, seval, Zq, Zr, bys, hQ]
 refine Zg func147 rfl rfl rfl ((XT q.frm (by omega) _ _)) ?_
 simp only [go_sem, seval, List.length_map, hB, g1, Yp]
 repeat (first | refine peel ?_ | refine ⟨by exact ⟨Nat.le_refl _, Nat.le_refl _, .inr trivial, by omega, by omega⟩, ?_⟩)
 apply Y; clear Y K
 refine Yh (fun H' n' => Qn q H n (0 + 1) 1048600 (b0 ++ Zp q.frm) H' n') (hS.app (Zp q.frm) rfl (by omega) (by omega)) fun H1 m hS => ?_
 rw [← List.length_append]
 obtain ⟨c1, hc1⟩ : ∃ b, b = b0 ++ Zp q.frm := ⟨_, rfl⟩
 rw [← hc1] at hS ⊢
 have hQ := hS.q
 have hB := hS.b
 have hl := hS.lt
 have hle := hS.le
 have g1 : (n + 1 = m) = False := by simp; omega
 have g2 : (n = m) = False := by simp; omega
 have hy := ZL (v := q.to.length) (by omega)
 have hz : (Zp q.to).length = (Zm q.to.length).length + q.to.length := by simp [Zp]
 refine Za zs [1, 3] fun K Y => ?_
 simp only [go_sem, seval, Zq, Zr, bys, hQ]
 refine Zg func147 rfl rfl rfl ((XT q.to (by omega) _ _)) ?_
 simp only [go_sem, seval, List.length_map, hB, g1, Yp]
 repeat (first | refine peel ?_ | refine ⟨by exact ⟨Nat.le_refl _, Nat.le_refl _, .inr trivial, by omega, by omega⟩, ?_⟩)
 apply Y; clear Y K
 refine Yh (fun H' n' => Qn q H n (0 + 1 + 1) 2097200 (c1 ++ Zp q.to) H' n') (hS.app (Zp q.to) rfl (by omega) (by omega)) fun H1 m hS => ?_
 rw [← List.length_append]
 obtain ⟨c2, hc2⟩ : ∃ b, b = c1 ++ Zp q.to := ⟨_, rfl⟩
 rw [← hc2] at hS ⊢
 have hQ := hS.q
 have hB := hS.b
 have hl := hS.lt
 have hle := hS.le
 have g1 : (n + 1 = m) = False := by simp; omega
 have g2 : (n = m) = False := by simp; omega
 have hy := ZL (Xg q.fams.length)
 refine Za zs [1, 3] fun K Y => ?_
 simp only [go_sem, seval, Zq, Zr, bys, List.length_map, hQ, YK]
 refine Zg func146 rfl rfl rfl ((Xo (u64 q.fams.length) (Xg _) _ _)) ?_
 simp only [go_sem, seval, List.length_map, hB, g1, Yp]
 repeat (first | refine peel ?_ | refine ⟨by exact ⟨Nat.le_refl _, Nat.le_refl _, .inr trivial, by omega, by omega⟩, ?_⟩)
 apply Y; clear Y K
 refine Zb fun K1 hK1 => ?_
 refine Yh (fun H' n' => Qn q H n (0 + 1 + 1 + 1) 3000000 (c2 ++ Zm (u64 q.fams.length)) H' n') (hS.app (Zm (u64 q.fams.length)) rfl (by omega) (by omega)) fun H1 m hS => ?_
 rw [← List.length_append]
 obtain ⟨c3, hc3⟩ : ∃ b, b = c2 ++ Zm (u64 q.fams.length) := ⟨_, rfl⟩
 rw [← hc3] at hS ⊢
 have hQ := hS.q
 have hB := hS.b
 have hl := hS.lt
 have hle := hS.le
 have g1 : (n + 1 = m) = False := by simp; omega
 have g2 : (n = m) = False := by simp; omega
 refine Za zs [1, 3, 29, 30, 31] fun K Y => ?_
 simp only [go_sem, seval, Zq, Zr, bys, List.length_map, hQ]
 apply Y; clear Y K
 refine Zj ?_
 refine Zz (fun T' H' n' => ∃ i : Nat, i ≤ q.fams.length ∧ T' = tl [(1, .loc n 0 0 0 []), (3, .osl (n + 1) (3 + i) 0 (c3 ++ (q.fams.take i).flatMap (fun f => Zm (u64 f))).length), (29, Zr q.fams), (30, .int .i64 q.fams.length), (31, .int .i64 i)] ∧ Qn q H n (3 + i) (3000000 + 10 * i) (c3 ++ (q.fams.take i).flatMap (fun f => Zm (u64 f))) H' n') (fun T' _ _ => q.fams.length - iv (T' 31)) ?_ ?_
 ·exact ⟨0, Nat.zero_le _, by simp [Zr], by simpa using hS⟩
 intro T1 H1 n1
 rintro ⟨i, hi, rfl, hS⟩
 obtain ⟨m, hm⟩ : ∃ m, m = n1 := ⟨_, rfl⟩
 subst hm
 refine Za zs [1, 3, 29, 30, 31, 32] fun K Y => ?_
 simp only [go_sem, seval, Zr, Int.toNat_natCast]
 apply Y; clear Y K
 refine Zb fun K2 hK2 => ?_
 refine Ze ?_ ?_ <;> intro hb
 ·have hlt : i < q.fams.length := by have := of_decide_eq_true hb; omega
  have hx : IntKind.i64.wrap ((i : Int) + 1) = ((i + 1 : Nat) : Int) := w1 (by omega)
  have hnth : nth (q.fams.map fun n => AV.int .i64 n) i = AV.int .i64 (q.fams.getD i 0) := ZF (fun n => AV.int .i64 n) q.fams _ hlt
  have hy := ZL (Xg (q.fams.getD i 0))
  have hts : (q.fams.take (i + 1)).flatMap (fun f => Zm (u64 f)) = (q.fams.take i).flatMap (fun f => Zm (u64 f)) ++ Zm (u64 (q.fams.getD i 0)) := by rw [List.take_succ_eq_append_getElem hlt, List.flatMap_append]; simp [List.getD, hlt]
  obtain ⟨d, hd⟩ : ∃ d, d = c3 ++ (q.fams.take i).flatMap (fun f => Zm (u64 f)) := ⟨_, rfl⟩
  rw [← hd] at hS ⊢
  have hQ := hS.q
  have hB := hS.b
  have hl := hS.lt
  have hle := hS.le
  have g1 : (n + 1 = m) = False := by simp; omega
  have g2 : (n = m) = False := by simp; omega
  refine Zd ?_
  simp only [go_sem, seval, Zr, Int.toNat_natCast]
  apply hK2
  clear hK2 K2
  refine Zb fun K3 hK3 => ?_
  refine Zj ?_
  refine Za zs [1, 3, 5, 29, 30, 31] fun K Y => ?_
  simp only [go_sem, seval, Zr, List.length_map, hnth, Int.toNat_natCast]
  repeat refine peel ?_
  apply Y; clear Y K
  refine Zl zs [1, 3, 29, 30, 31] fun K Y => ?_
  simp only [go_sem, seval, Zr, YK, Int.toNat_natCast]
  refine Zg func146 rfl rfl rfl ((Xo (u64 (q.fams.getD i 0)) (Xg _) _ _)) ?_
  simp only [go_sem, seval, List.length_map, hB, g1, Yp]
  repeat (first | refine peel ?_ | refine ⟨by exact ⟨Nat.le_refl _, Nat.le_refl _, .inr trivial, by omega, by omega⟩, ?_⟩)
  apply Y; clear Y K
  simp only [go_sem, seval, Zr, Int.toNat_natCast]
  apply hK3
  clear hK3 K3
  refine Zl zs [1, 3, 29, 30, 31] fun K Y => ?_
  simp only [go_sem, seval, Zr, hx, Int.toNat_natCast]
  apply Y; clear Y K
  simp only [go_sem, seval, Zr, Int.toNat_natCast]
  refine ⟨⟨i + 1, by omega, ?_, ?_⟩, by omega⟩
  ·rw [hts, ← List.append_assoc, ← hd, List.length_append]; simp [Zr]; try rfl
  ·rw [hts, ← List.append_assoc, ← hd]; exact hS.app (Zm (u64 (q.fams.getD i 0))) rfl (by omega) (by omega)
 have hge : i = q.fams.length := by have := of_decide_eq_false hb; omega
 have htk : q.fams.take i = q.fams := List.take_of_length_le (by omega)
 subst hge
 obtain ⟨c4, hc4⟩ : ∃ d, d = c3 ++ (q.fams.take q.fams.length).flatMap (fun f => Zm (u64 f)) := ⟨_, rfl⟩
 rw [← hc4] at hS ⊢
 have hQ := hS.q
 have hB := hS.b
 have hl := hS.lt
 have hle := hS.le
 have g1 : (n + 1 = m) = False := by simp; omega
 have g2 : (n = m) = False := by simp; omega
 have hy := ZL (v := q.pre.length) (by omega)
 have hz : (Zp q.pre).length = (Zm q.pre.length).length + q.pre.length := by simp [Zp]
 refine ZA ?_
 simp only [go_sem, seval, Zr, Int.toNat_natCast]
 apply hK1
 refine Za zs [1, 3] fun K Y => ?_
 simp only [go_sem, seval, Zq, Zr, bys, hQ]
 refine Zg func147 rfl rfl rfl ((XT q.pre (by omega) _ _)) ?_
 simp only [go_sem, seval, List.length_map, hB, g1, Yp]
 repeat (first | refine peel ?_ | refine ⟨by exact ⟨Nat.le_refl _, Nat.le_refl _, .inr trivial, by omega, by omega⟩, ?_⟩)
 apply Y; clear Y K
 refine Yh (fun H' n' => Qn q H n (3 + q.fams.length + 1) 16000000 (c4 ++ Zp q.pre) H' n') (hS.app (Zp q.pre) rfl (by omega) (by omega)) fun H1 m hS => ?_
 rw [← List.length_append]
 obtain ⟨c5, hc5⟩ : ∃ b, b = c4 ++ Zp q.pre := ⟨_, rfl⟩
 rw [← hc5] at hS ⊢
 have hQ := hS.q
 have hB := hS.b
 have hl := hS.lt
 have hle := hS.le
 have g1 : (n + 1 = m) = False := by simp; omega
 have g2 : (n = m) = False := by simp; omega
 have hy := ZL (Xg q.time)
 refine Za zs [1, 3] fun K Y => ?_
 simp only [go_sem, seval, Zq, Zr, bys, hQ, YK]
 refine Zg func146 rfl rfl rfl ((Xo (u64 q.time) (Xg _) _ _)) ?_
 simp only [go_sem, seval, List.length_map, hB, g1, Yp]
 repeat (first | refine peel ?_ | refine ⟨by exact ⟨Nat.le_refl _, Nat.le_refl _, .inr trivial, by omega, by omega⟩, ?_⟩)
 apply Y; clear Y K
 refine Yh (fun H' n' => Qn q H n (3 + q.fams.length + 1 + 1) 16000010 (c5 ++ Zm (u64 q.time)) H' n') (hS.app (Zm (u64 q.time)) rfl (by omega) (by omega)) fun H1 m hS => ?_
 rw [← List.length_append]
 obtain ⟨c6, hc6⟩ : ∃ b, b = c5 ++ Zm (u64 q.time) := ⟨_, rfl⟩
 rw [← hc6] at hS ⊢
 have hQ := hS.q
 have hB := hS.b
 have hl := hS.lt
 have hle := hS.le
 have g1 : (n + 1 = m) = False := by simp; omega
 have g2 : (n = m) = False := by simp; omega
 have hy := ZL (Xg q.n)
 refine Za zs [1, 3] fun K Y => ?_
 simp only [go_sem, seval, Zq, Zr, bys, hQ, YK]
 refine Zg func146 rfl rfl rfl ((Xo (u64 q.n) (Xg _) _ _)) ?_
 simp only [go_sem, seval, List.length_map, hB, g1, Yp]
 repeat (first | refine peel ?_ | refine ⟨by exact ⟨Nat.le_refl _, Nat.le_refl _, .inr trivial, by omega, by omega⟩, ?_⟩)
 apply Y; clear Y K
 refine Yh (fun H' n' => Qn q H n (3 + q.fams.length + 1 + 1 + 1) 16000020 (c6 ++ Zm (u64 q.n)) H' n') (hS.app (Zm (u64 q.n)) rfl (by omega) (by omega)) fun H1 m hS => ?_
 rw [← List.length_append]
 obtain ⟨c7, hc7⟩ : ∃ b, b = c6 ++ Zm (u64 q.n) := ⟨_, rfl⟩
 rw [← hc7] at hS ⊢
 have hQ := hS.q
 have hB := hS.b
 have hl := hS.lt
 have hle := hS.le
 have g1 : (n + 1 = m) = False := by simp; omega
 have g2 : (n = m) = False := by simp; omega
 have hy := ZL (v := q.whr.length) (by omega)
 have hz : (Zp q.whr).length = (Zm q.whr.length).length + q.whr.length := by simp [Zp]
 refine Za zs [2] fun K Y => ?_
 simp only [go_sem, seval, Zq, Zr, bys, hQ]
 refine Zg func147 rfl rfl rfl ((XT q.whr (by omega) _ _)) ?_
 simp only [go_sem, seval, List.length_map, hB, g1, Yp]
 repeat (first | refine peel ?_ | refine ⟨by exact ⟨Nat.le_refl _, Nat.le_refl _, .inr trivial, by omega, by omega⟩, ?_⟩)
 apply Y; clear Y K
 refine Zf ?_
 simp only [go_sem, seval]
 have hF : UJ q = c7 ++ Zp q.whr := by unfold UJ; rw [hc7, hc6, hc5, hc4, htk, hc3, hc2, hc1, hb0]
 refine ⟨_, rfl, fun k hk => by rw [if_neg (by omega), if_neg (by omega)]; exact hS.low k hk, ?_⟩
 rw [hF, List.map_append]
 exact .osl (MG _ _ _) (by omega) (by simp) (by rw [List.drop_zero, List.take_of_length_le (by simp), ← List.map_append]; exact YA _ (ZJ _ _))
def tokB (q : QryE) (time : Int) (row : List UInt8) : List UInt8 := frameB (Zm (u64 time) ++ Zp row ++ Zm (u64 (sumF [UJ q])))
theorem fz_bys {k ver : Nat} (b : List UInt8) : FzV k ver 1 (b.map Zn) (.osl k ver 0 b.length) (bys b) := by
 have h := FzV.osl (k := k) (ver := ver) (e := 1) (els := b.map Zn) (off := 0) (len := b.length) (by simp)
 rwa [List.drop_zero, List.take_of_length_le (by simp)] at h
theorem formB_len {q : QryE} (h : q.fine) : (UJ q).length ≤ 20000000 := by
 have h1 := ZL (v := q.frm.length) (by have := h.frm; omega)
 have h2 := ZL (v := q.to.length) (by have := h.to; omega)
 have h3 := ZL (Xg q.fams.length)
 have h4 := ZL (v := q.pre.length) (by have := h.pre; omega)
 have h5 := ZL (Xg q.time)
 have h6 := ZL (Xg q.n)
 have h7 := ZL (v := q.whr.length) (by have := h.whr; omega)
 have h8 : ∀ l : List Int, (l.flatMap fun f => Zm (u64 f)).length ≤ 10 * l.length := fun l => by
   induction l with
   | nil => simp
   | cons a l ih => have := ZL (Xg a); rw [List.flatMap_cons, List.length_append, List.length_cons]; omega
 have h9 := h8 q.fams
 have := h.frm; have := h.to; have := h.fams; have := h.pre; have := h.whr
 unfold UJ Zp
 simp only [List.length_append, List.length_cons, List.length_nil]
 omega
theorem QB (q : QryE) (hq : q.fine) (time : Int) (row : List UInt8) (hr : row.length ≤ 256) {H : Heap} {n : Nat} (hG : GOK 0 2 H n) : Ret prog 145 [.agg [.int .i64 time, bys row], Zq q] H n (bys (tokB q time row)) H n := by
 have hsz : (Zq q).sz = 10 := Yj q
 have hag : (Zq q).isAgg = true := rfl
 have hmo : (Zq q).memOK = true := rfl
 have hG0 := hG
 have r1 := hsz
 have r2 := hsz
 have g1 := hsz
 have hy := ZL (v := row.length) (by omega)
 have hz : (Zp row).length = (Zm row.length).length + row.length := by simp [Zp]
 have hy2 := ZL (Xg time)
 have hy3 := ZL (Xg (sumF [UJ q]))
 have f1 : (n = n + 1) = False := by simp
 have f2 : (n + 1 = n) = False := by simp
 have f3 : (n + 1 = n + 2) = False := by simp
 have f4 : (n = n + 2) = False := by simp
 have f5 : (n + 2 = n + 2 + 1) = False := by simp
 have f6 : (n + 2 + 1 = n + 2) = False := by simp
 refine Ret.fin ?_
 refine Zc func145 rfl ntmps145 (congrArg Array.toList results145) (by simp) ?_
 simp only [go_sem]
 refine Za zs [2, 3] fun K Y => ?_
 simp only [go_sem, seval, hsz, hmo]
 apply Y; clear Y K
 refine VY rfl zs [3, 5] [.q, .q, .q, .w [4, 5], .q, .q, .w [], .w [], .q] [0, 1, 2, 4, 5, 3, 6, 7, 8] [0, 1, 2, 5, 3, 4, 6, 7, 8] (by kernel_rfl) (fun _ _ _ _ _ h => h) fun K Y => ?_
 simp only [go_sem, seval, f1, YK]
 refine Zg func146 rfl rfl rfl ((Xo (u64 time) (Xg _) _ _)) ?_
 simp only [go_sem, seval, f1, f4]
 refine Zg func147 rfl rfl rfl ((XT row (by omega) _ _)) ?_
 simp only [go_sem, seval, f5, Yp, List.length_map]
 repeat (first | refine peel ?_ | refine ⟨by exact ⟨Nat.le_refl _, Nat.le_refl _, .inr trivial, by omega, by omega⟩, ?_⟩)
 apply Y; clear Y K
 refine Yh (fun H' n' => H' (n + 1) = some (.arr 0 10 [Zq q]) ∧ H' (n + 2) = some (.arr ((Zm (u64 time)).length + 1) 1 ((Zm (u64 time) ++ Zp row).map Zn)) ∧ GOK 0 2 H' n' ∧ (∀ k, k < n → H' k = H k) ∧ n + 4 ≤ n') ⟨by (try simp only [MF]); simp, by rw [MG, List.map_append], hG0.on (fun k hk => by (try simp only [MF]); (repeat rw [if_neg (by omega)])) (by omega), fun k hk => by (try simp only [MF]); (repeat rw [if_neg (by omega)]), by omega⟩ fun H1 m ⟨r1, r2, hG, hl1, hm⟩ => ?_
 rw [← List.length_append]
 have g1 : (n + 2 = m) = False := by simp; omega
 have hbl : (Zm (u64 time) ++ Zp row).length ≤ 300 := by rw [List.length_append]; omega
 have e9 : List.take (Zm (u64 time) ++ Zp row).length (List.map Zn (Zm (u64 time) ++ Zp row)) = List.map Zn (Zm (u64 time) ++ Zp row) := Yp _
 refine Za zs [6] fun K Y => ?_
 simp only [go_sem, seval, hsz, hag, r1]
 refine Zg func167 rfl rfl rfl ((c_query_form q hq.frm hq.to hq.fams hq.pre hq.whr _ _)) ?_
 simp only [go_sem, seval]
 repeat (first | refine peel ?_ | refine ⟨by exact ⟨rfl, by simp [AV.sz, AV.memOK]⟩, ?_⟩)
 refine Zg func165 rfl rfl rfl ((VK [UJ q] (by simp) (fun x hx => by rw [List.mem_singleton.1 hx]; have := formB_len hq; omega) hG)) ?_
 simp only [go_sem, seval, YK]
 refine Zg func146 rfl rfl rfl ((Xo (u64 (sumF [UJ q])) (Xg _) _ _)) ?_
 simp only [go_sem, seval, g1, r2, Yp, List.length_map, e9]
 repeat (first | refine peel ?_ | refine ⟨by exact ⟨Nat.le_refl _, Nat.le_refl _, .inr trivial, by omega, by omega⟩, ?_⟩)
 rw [← List.length_append, ← List.map_append]
 refine Zg func166 rfl rfl rfl (Ret.frzK (args := [.osl (n + 2) ((Zm (u64 time)).length + 2) 0 (Zm (u64 time) ++ Zp row ++ Zm (u64 (sumF [UJ q]))).length]) (args' := [bys (Zm (u64 time) ++ Zp row ++ Zm (u64 (sumF [UJ q])))]) (n + 2) (MG _ _ _) ⟨fz_bys _, trivial⟩ (c_wire_Frame (Zm (u64 time) ++ Zp row ++ Zm (u64 (sumF [UJ q]))) (by rw [List.length_append]; omega) (hG0.on (fun k hk => by rw [ME _ _ (by omega), ME _ _ (by omega), ME _ _ (by omega)]; exact hl1 k hk) (by omega)))) ?_
 simp only [go_sem, seval]
 apply Y; clear Y K
 refine Za zs [4] fun K Y => ?_
 simp only [go_sem, seval]
 apply Y; clear Y K
 refine Zf ?_
 simp only [go_sem, seval]
 exact ⟨_, rfl, fun k hk => by (try simp only [MF]); (repeat rw [if_neg (by omega)]); exact hl1 k hk, .kl (ZJ (tokB q time row) _)⟩
def readQ (q : QryE) : Int × List UInt8 × Int :=
 if q.token.length = 0 then (0, [], 0)
 else if (rfQ q.token).2.2 ≠ 0 then (0, [], 132)
 else if (ruB (rfQ q.token).1 0).2.2 ≠ 0 ∨ (ruB (rfQ q.token).1 0).1 < 1 ∨ 1099511627776 < (ruB (rfQ q.token).1 0).1 ∨ (q.time ≠ 0 ∧ (ruB (rfQ q.token).1 0).1 ≠ u64 q.time) then (0, [], 132)
 else if (rbB (rfQ q.token).1 (ruB (rfQ q.token).1 0).2.1 256).2.2 ≠ 0 ∨ (rbB (rfQ q.token).1 (ruB (rfQ q.token).1 0).2.1 256).1.length = 0 ∨ asksB q (rbB (rfQ q.token).1 (ruB (rfQ q.token).1 0).2.1 256).1 = false ∨ (tokB q (ruB (rfQ q.token).1 0).1 (rbB (rfQ q.token).1 (ruB (rfQ q.token).1 0).2.1 256).1 == q.token) = false then (0, [], 132)
 else (((ruB (rfQ q.token).1 0).1 : Int), (rbB (rfQ q.token).1 (ruB (rfQ q.token).1 0).2.1 256).1, 0)
theorem rbB_most (b : List UInt8) (p most : Nat) : (rbB b p most).1.length ≤ most := by
 unfold rbB
 repeat' split
 all_goals first | simp | skip
 omega
theorem rfQ_len (b : List UInt8) : (rfQ b).1.length ≤ b.length := by
 unfold rfQ rfN
 repeat' split
 all_goals first | simp | skip
 exact Nat.le_trans (Nat.min_le_right _ _) (Nat.sub_le _ _)
theorem c_tok_quiet (q : QryE) (hq : q.fine) (time : Int) (row : List UInt8) (hr : row.length ≤ 256) {H : Heap} (ha : H 0 = some (.glob 5 XX)) (hb : H 2 = some (.glob 1 Vx)) (n : Nat) : Ret prog 145 [.agg [.int .i64 time, bys row], Zq q] H n (bys (tokB q time row)) H n :=
 Ret.below ha fun g1 => Ret.below hb fun g2 => QB q hq time row hr ⟨ha, hb, g1, g2⟩
set_option maxHeartbeats 3200000 in
theorem JA (q : QryE) (hq : q.fine) {H : Heap} {n : Nat} (hG : GOK 0 2 H n) : Ret prog 111 [Zq q] H n (.tup [.agg [.int .i64 (readQ q).1, bys (readQ q).2.1], .int .i64 (readQ q).2.2]) H n := by
 have hsz : (Zq q).sz = 10 := Yj q
 have hag : (Zq q).isAgg = true := rfl
 have hmo : (Zq q).memOK = true := rfl
 obtain ⟨z, hz⟩ : ∃ z, z = readQ q := ⟨_, rfl⟩
 rw [← hz]
 unfold readQ at hz
 have hfl := rfQ_len q.token
 have htl := hq.token
 obtain ⟨fr, hfr⟩ : ∃ f, f = rfQ q.token := ⟨_, rfl⟩
 rw [← hfr] at hz hfl
 obtain ⟨hu1, hu2, hu3⟩ := Lm fr.1 0
 obtain ⟨u, hu⟩ : ∃ u, u = ruB fr.1 0 := ⟨_, rfl⟩
 rw [← hu] at hz hu1 hu2 hu3
 have hbm := rbB_most fr.1 u.2.1 256
 obtain ⟨rb, hrb⟩ : ∃ b, b = rbB fr.1 u.2.1 256 := ⟨_, rfl⟩
 rw [← hrb] at hz hbm
 have hx := hsz
 have hgk := hG.gek
 have hgt := hG.get
 have f1 : (n = n + 1) = False := by simp
 have f2 : (n + 1 = n) = False := by simp
 have f3 : (n = n + 2) = False := by simp
 have f4 : (n + 1 = n + 2) = False := by simp
 have f5 : (n + 2 = n) = False := by simp
 have f6 : (n + 2 = n + 1) = False := by simp
 refine Ret.fin ?_
 refine Zc func111 rfl ntmps111 (congrArg Array.toList results111) (by simp) ?_
 simp only [go_sem]
 refine Za zs [1, 2] fun K Y => ?_
 simp only [go_sem, seval, Zq, Zr, bys]
 apply Y; clear Y K
 refine Zb fun K1 hK1 => ?_
 refine Za zs [1, 2, 15] fun K Y => ?_
 simp only [go_sem, seval, f1, List.length_map]
 apply Y; clear Y K
 refine Ze ?_ ?_ <;> intro hb
 ·have h0 : q.token.length = 0 := by have h9 := hb; simp at h9; simp [h9]
  rw [if_pos h0] at hz
  refine Za zs [2, 3] fun K Y => ?_
  simp only [go_sem, seval]
  apply Y; clear Y K
  refine Zf ?_
  simp only [go_sem, seval]
  rw [hz]
  exact ⟨_, rfl, fun k hk => by (try simp only [MF]); (repeat rw [if_neg (by omega)]), .tup (.cons (.agg (.cons (.kl trivial) (.cons .nilsl .nil))) (.cons (.kl trivial) .nil))⟩
 have h0 : ¬ q.token.length = 0 := by have h9 := hb; simp at h9; simp [h9]
 rw [if_neg h0] at hz
 refine Zd ?_
 simp only [go_sem, seval]
 apply hK1
 clear hK1 K1
 refine Za zs [1, 2, 4, 6] fun K Y => ?_
 simp only [go_sem, seval, f1]
 refine Zg func143 rfl rfl rfl ((hfr ▸ Kb q.token (by omega) (hG.on (fun k hk => by (try simp only [MF]); (repeat rw [if_neg (by omega)])) (by omega)))) ?_
 simp only [go_sem, seval, bys]
 apply Y; clear Y K
 refine Zb fun K2 hK2 => ?_
 refine Za zs [1, 2, 4, 25] fun K Y => ?_
 simp only [go_sem, seval]
 apply Y; clear Y K
 refine Ze ?_ ?_ <;> intro hb
 ·rw [if_pos (by simpa using hb)] at hz
  refine Za zs [2, 3] fun K Y => ?_
  simp only [go_sem, seval]
  apply Y; clear Y K
  refine Zf ?_
  simp only [go_sem, seval]
  rw [hz]
  exact ⟨_, rfl, fun k hk => by (try simp only [MF]); (repeat rw [if_neg (by omega)]), .tup (.cons (.agg (.cons (.kl trivial) (.cons .nilsl .nil))) (.cons (.kl trivial) .nil))⟩
 rw [if_neg (by simpa using hb)] at hz
 refine Zd ?_
 simp only [go_sem, seval]
 apply hK2
 clear hK2 K2
 refine Za zs [1, 2, 4, 6, 7, 8] fun K Y => ?_
 simp only [go_sem, seval]
 refine Zg func128 rfl rfl rfl ((hu ▸ Vf fr.1 0 (by omega) (by omega) _ _)) ?_
 simp only [go_sem, seval, ruAV]
 apply Y; clear Y K
 refine Zb fun K3 hK3 => ?_
 refine Za zs [1, 2, 4, 7, 8, 54] fun K Y => ?_
 simp only [go_sem, seval, f1, YK]
 repeat refine peel ?_
 apply Y; clear Y K
 refine Ze ?_ ?_ <;> intro hb
 ·have hc : u.2.2 ≠ 0 ∨ u.1 < 1 ∨ 1099511627776 < u.1 ∨ (q.time ≠ 0 ∧ u.1 ≠ u64 q.time) := by grind
  rw [if_pos hc] at hz
  refine Za zs [2, 3] fun K Y => ?_
  simp only [go_sem, seval]
  apply Y; clear Y K
  refine Zf ?_
  simp only [go_sem, seval]
  rw [hz]
  exact ⟨_, rfl, fun k hk => by (try simp only [MF]); (repeat rw [if_neg (by omega)]), .tup (.cons (.agg (.cons (.kl trivial) (.cons .nilsl .nil))) (.cons (.kl trivial) .nil))⟩
 have hc : ¬ (u.2.2 ≠ 0 ∨ u.1 < 1 ∨ 1099511627776 < u.1 ∨ (q.time ≠ 0 ∧ u.1 ≠ u64 q.time)) := by grind
 rw [if_neg hc] at hz
 have hx : IntKind.i64.wrap (u.1 : Int) = (u.1 : Int) := w64 (by omega) (by omega)
 refine Zd ?_
 simp only [go_sem, seval]
 apply hK3
 clear hK3 K3
 refine Za zs [1, 2, 6, 7, 9] fun K Y => ?_
 simp only [go_sem, seval]
 refine Zg func130 rfl rfl rfl ((hrb ▸ Ui fr.1 u.2.1 256 (by omega) (by omega) (by omega) _ _)) ?_
 simp only [go_sem, seval, rbAV, bys]
 apply Y; clear Y K
 refine Za zs [1, 2, 6, 9, 11] fun K Y => ?_
 simp only [go_sem, seval, hx]
 repeat refine peel ?_
 apply Y; clear Y K
 refine Zb fun K4 hK4 => ?_
 refine YJ rfl zs [2, 11, 88] [.m, .q, .m, .m, .q, .q, .q, .m, .q, .m, .c, .q, .q, .m, .q, .q, .c, .q, .q, .c, .q, .q] (by kernel_rfl) (fun _ _ _ _ _ h => h) fun K Y => ?_
 simp only [go_sem, seval, f1, f3, List.length_map]
 repeat refine peel ?_
 refine ZR func144 rfl rfl rfl (fun _ n => (c_query_asks q rb.1 _ _)) ?_
 simp only [go_sem, seval, f1, f3]
 repeat refine peel ?_
 refine ZR func145 rfl rfl rfl (fun _ n => (c_tok_quiet q hq u.1 rb.1 hbm (by (try simp only [MF]); (repeat rw [if_neg (by omega)]); exact hG.kinds) (by (try simp only [MF]); (repeat rw [if_neg (by omega)]); exact hG.table) n)) ?_
 simp only [go_sem, seval, bys]
 refine ZR func77 rfl rfl rfl (fun _ n => (Yk (tokB q u.1 rb.1) q.token _ _)) ?_
 simp only [go_sem, seval]
 repeat refine peel ?_
 apply Y; clear Y K
 refine Ze ?_ ?_ <;> intro hb
 ·have hc2 : rb.2.2 ≠ 0 ∨ rb.1.length = 0 ∨ asksB q rb.1 = false ∨ (tokB q u.1 rb.1 == q.token) = false := by grind
  rw [if_pos hc2] at hz
  refine Za zs [2, 3] fun K Y => ?_
  simp only [go_sem, seval, f4]
  apply Y; clear Y K
  refine Zf ?_
  simp only [go_sem, seval]
  rw [hz]
  exact ⟨_, rfl, fun k hk => by (try simp only [MF]); (repeat rw [if_neg (by omega)]), .tup (.cons (.agg (.cons (.kl trivial) (.cons .nilsl .nil))) (.cons (.kl trivial) .nil))⟩
 have hc2 : ¬ (rb.2.2 ≠ 0 ∨ rb.1.length = 0 ∨ asksB q rb.1 = false ∨ (tokB q u.1 rb.1 == q.token) = false) := by grind
 rw [if_neg hc2] at hz
 refine Zd ?_
 simp only [go_sem, seval]
 apply hK4
 clear hK4 K4
 refine Za zs [2, 3] fun K Y => ?_
 simp only [go_sem, seval, f4]
 apply Y; clear Y K
 refine Zf ?_
 simp only [go_sem, seval]
 rw [hz]
 exact ⟨_, rfl, fun k hk => by (try simp only [MF]); (repeat rw [if_neg (by omega)]), .kl ⟨⟨trivial, ZJ _ _, trivial⟩, trivial, trivial⟩⟩
def qcE (fs : List Fml) (q : QryE) : Int :=
 if Z8 fs ≠ 0 then Z8 fs
 else if U1 fs.length q = false then 130
 else if 0 < q.whr.length ∧ (Vv fs q.whr).2.1 ≠ 0 then (Vv fs q.whr).2.1
 else (readQ q).2.2
theorem LC {fs : List Fml} {q : QryE} (h : qcE fs q = 0) : q.nums := by
 unfold qcE at h
 split at h
 ·rename_i h0; exact absurd h h0
 ·rename_i h0
  split at h
  ·exact absurd h (by decide)
  ·rename_i h1
   have hs : fs.length ≤ 8 := Lf (by simpa using h0)
   exact fitsQ_nums hs (by simpa using h1)
set_option maxHeartbeats 1600000 in
theorem c_query_Check (fs : List Fml) (hfs : fs.length ≤ 1048576) (q : QryE) (hq : q.fine) {H : Heap} {n : Nat} (hG : GOK 0 2 H n) : Ret prog 53 [Zt fs, Zq q] H n (.int .i64 (qcE fs q)) H n := by
 have hsz : (Zq q).sz = 10 := Yj q
 have hag : (Zq q).isAgg = true := rfl
 have hmo : (Zq q).memOK = true := rfl
 have hszs : (Zt fs).sz = 1 := rfl
 have hags : (Zt fs).isAgg = true := rfl
 have hmos : (Zt fs).memOK = true := rfl
 obtain ⟨z, hz⟩ : ∃ z, z = qcE fs q := ⟨_, rfl⟩
 rw [← hz]
 unfold qcE at hz
 have f1 : (n = n + 1) = False := by simp
 have f2 : (n + 1 = n) = False := by simp
 refine Ret.fin ?_
 refine Zc func53 rfl ntmps53 (congrArg Array.toList results53) (by simp) ?_
 simp only [go_sem]
 refine Za zs [2, 3] fun K Y => ?_
 simp only [go_sem, seval, Zq, Zr, bys]
 apply Y; clear Y K
 refine Zb fun K1 hK1 => ?_
 refine Za zs [2, 3, 5] fun K Y => ?_
 simp only [go_sem, seval, f1]
 refine Zg func47 rfl rfl rfl ((Xt fs _ _)) ?_
 simp only [go_sem, seval]
 apply Y; clear Y K
 refine Za zs [2, 3, 5, 14] fun K Y => ?_
 simp only [go_sem, seval]
 apply Y; clear Y K
 refine Ze ?_ ?_ <;> intro hb
 ·rw [if_pos (by simpa using hb)] at hz
  refine Za zs [4] fun K Y => ?_
  simp only [go_sem, seval]
  apply Y; clear Y K
  refine Zf ?_
  simp only [go_sem, seval]
  rw [hz]
  exact ⟨_, rfl, fun k hk => by (try simp only [MF]); (repeat rw [if_neg (by omega)]), .kl trivial⟩
 rw [if_neg (by simpa using hb)] at hz
 refine Zd ?_
 simp only [go_sem, seval]
 apply hK1
 clear hK1 K1
 refine Zb fun K2 hK2 => ?_
 refine Za zs [2, 3, 19] fun K Y => ?_
 simp only [go_sem, seval, f1]
 refine Zg func109 rfl rfl rfl ((c_query_fits fs hfs q hq.fams _ _)) ?_
 simp only [go_sem, seval]
 apply Y; clear Y K
 refine Ze ?_ ?_ <;> intro hb
 ·rw [if_pos (by simpa using hb)] at hz
  refine Za zs [4] fun K Y => ?_
  simp only [go_sem, seval]
  apply Y; clear Y K
  refine Zf ?_
  simp only [go_sem, seval]
  rw [hz]
  exact ⟨_, rfl, fun k hk => by (try simp only [MF]); (repeat rw [if_neg (by omega)]), .kl trivial⟩
 rw [if_neg (by simpa using hb)] at hz
 refine Zd ?_
 simp only [go_sem, seval]
 apply hK2
 clear hK2 K2
 refine Zb fun K3 hK3 => ?_
 refine Za zs [2, 3, 23] fun K Y => ?_
 simp only [go_sem, seval]
 apply Y; clear Y K
 refine Ze ?_ ?_ <;> intro hb
 ·have hw0 : 0 < q.whr.length := by have := of_decide_eq_true hb; omega
  refine Za zs [3, 7] fun K Y => ?_
  simp only [go_sem, seval, f1]
  refine Zg func110 rfl rfl rfl ((Q6 fs hfs q.whr _ _)) ?_
  simp only [go_sem, seval]
  apply Y; clear Y K
  refine Za zs [3, 7, 33] fun K Y => ?_
  simp only [go_sem, seval]
  apply Y; clear Y K
  refine Ze ?_ ?_ <;> intro hb
  ·rw [if_pos ⟨hw0, by simpa using hb⟩] at hz
   refine Za zs [4] fun K Y => ?_
   simp only [go_sem, seval]
   apply Y; clear Y K
   refine Zf ?_
   simp only [go_sem, seval]
   rw [hz]
   exact ⟨_, rfl, fun k hk => by (try simp only [MF]); (repeat rw [if_neg (by omega)]), .kl trivial⟩
  rw [if_neg (fun h => h.2 (by simpa using hb))] at hz
  refine Zd ?_
  simp only [go_sem, seval]
  apply hK3
  clear hK3 K3
  refine Za zs [10] fun K Y => ?_
  simp only [go_sem, seval]
  refine Zg func111 rfl rfl rfl ((JA q hq (hG.on (fun k hk => by (try simp only [MF]); (repeat rw [if_neg (by omega)])) (by omega)))) ?_
  simp only [go_sem, seval, bys]
  apply Y; clear Y K
  refine Za zs [4] fun K Y => ?_
  simp only [go_sem, seval]
  apply Y; clear Y K
  refine Zf ?_
  simp only [go_sem, seval]
  rw [hz]
  exact ⟨_, rfl, fun k hk => by (try simp only [MF]); (repeat rw [if_neg (by omega)]), .kl trivial⟩
 rw [if_neg (fun h => by have := of_decide_eq_false hb; omega)] at hz
 refine Zd ?_
 simp only [go_sem, seval]
 apply hK3
 clear hK3 K3
 refine Za zs [10] fun K Y => ?_
 simp only [go_sem, seval]
 refine Zg func111 rfl rfl rfl ((JA q hq (hG.on (fun k hk => by (try simp only [MF]); (repeat rw [if_neg (by omega)])) (by omega)))) ?_
 simp only [go_sem, seval, bys]
 apply Y; clear Y K
 refine Za zs [4] fun K Y => ?_
 simp only [go_sem, seval]
 apply Y; clear Y K
 refine Zf ?_
 simp only [go_sem, seval]
 rw [hz]
 exact ⟨_, rfl, fun k hk => by (try simp only [MF]); (repeat rw [if_neg (by omega)]), .kl trivial⟩
theorem fits_fine {c : CmdE} (h : c.fits) : c.q.fine := ⟨h.frm, h.to, h.fams, h.pre, h.whr, h.token⟩
theorem hq_all (fs : List Fml) (hfs : fs.length ≤ 1048576) (c : CmdE) (hc : c.fits) : Yd c.kind = true → ∀ H n, GOK 0 2 H n → Ret prog 53 [Zt fs, Zq c.q] H n (.int .i64 (qcE fs c.q)) H n :=
 fun _ _ _ hG => c_query_Check fs hfs c.q (fits_fine hc) hG
theorem q_Encode (fs : List Fml) (hfs : fs.length ≤ 1048576) (c : CmdE) (hc : c.fits) {H : Heap} {n : Nat} (hG : GOK 0 2 H n) : Ret prog 17 [Zt fs, Zh c] H n (.tup [bys (if ZB (qcE fs c.q) fs c = 0 then cmdB c else []), .int .i64 (ZB (qcE fs c.q) fs c)]) H n :=
 Qf fs (by omega) c hc (qcE fs c.q) hG (hq_all fs hfs c hc)
theorem q_Decode (fs : List Fml) (hfs : fs.length ≤ 1048576) (b : List UInt8) (hb : b.length ≤ 1048576) {H : Heap} {n : Nat} (hG : GOK 0 2 H n) : Ret prog 26 [Zt fs, bys b] H n (.tup [Zh (decC (qcE fs) fs b).1, .int .i64 (decC (qcE fs) fs b).2]) H n :=
 WA fs (by omega) b (by omega) (qcE fs) hG fun c hc hk => hq_all fs hfs c (Xi hb hc).1 hk
theorem cmdT_back {fs : List Fml} {a : CmdE} (hd : ∀ o ∈ a.ops, o.fine) (h : ZB (qcE fs (cmdT a).q) fs (cmdT a) = 0) : Vq (qcE fs (cmdT a).q) fs (cmdT a) where
 ok := h
 fits := cmdT_fits a
 delta := fun o ho => by
   obtain ⟨x, hx, rfl⟩ := List.mem_map.1 ho
   exact hd x (List.mem_of_mem_take hx)
 nums := fun _ => LC
theorem callQ_mkB {P : Program} {f : FuncId} {fn : Func} {first captured args args' : List AV} {H : Heap} {r : AV}
   (hf : P.funcs[f]? = some fn) (hb : fn.body.isSome = true) (hn : (fn.name == "runtime.NumGoroutine") = false) (ha : first ++ args ++ captured = args') (h : ∀ n, Ret P f args' H n r H n) : KD P (.fn (.func f) first captured) args H r :=
 fun n => Zg hf hb hn ha (h n) ⟨rfl, rfl, rfl⟩
end Go.Proofs.YtifnhpmeoogedaaGreatDoor