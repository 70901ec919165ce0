/- Own layer: an append behind which the old slice is still read: in place, or in new memory; an append to nil that makes owned memory. Of every program. -/
import Derived.Test.YtifnhpmeoogedaaGreatDoorPD
import Derived.Laws.Bits64
import Derived.Lib.LaidTab
import Derived.Test.YtifnhpmeoogedaaGreatDoorChecked
set_option linter.unusedSimpArgs false
set_option linter.unusedVariables false
namespace Go.Sx
open Go
def AppO (ver off len s by' : Nat) (kk : Nat) (H : Heap) (n : Nat) (C : Prop) (eo : Option Nat) (ys : List AV) (k : AV → Heap → Nat → Prop) : Option AObj → Prop
 | some (.arr ver' esz els) => (ver = ver' ∧ off = 0 ∧ len = els.length ∧ esz = s ∧ C ∧ (eo = none ∨ eo = some s) ∧ 0 < ys.length ∧ (len + ys.length) * by' ≤ 140737488355328 ∧ len + ys.length ≤ 4611686018427387904) ∧
     k (.osl kk ver 0 (len + ys.length)) (H.put kk (some (.arr ver esz (els ++ ys)))) n ∧ k (.osl n 0 0 (len + ys.length)) (H.put n (some (.arr 0 esz (els ++ ys)))) (n + 1)
 | _ => False
def AppD (H : Heap) (n : Nat) (k : AV → Heap → Nat → Prop) : AV → Option (Nat × Nat) → Option (Prop × Option Nat × List AV) → Prop
 | .nilsl, some (s, by'), some (C, eo, ys) => (C ∧ (eo = none ∨ eo = some s) ∧ ys.length * by' ≤ 140737488355328 ∧ ys.length ≤ 4611686018427387904) ∧ k (.osl n 0 0 ys.length) (H.put n (some (.arr 0 s ys))) (n + 1)
 | .osl kk ver off len, some (s, by'), some (C, eo, ys) => AppO ver off len s by' kk H n C eo ys k (H kk)
 | _, _, _ => False
section
variable {P : Program} {z : TypeId → AV} {N : Nat} {ops : Array Oper} {T : Nat → AV} {H : Heap} {n : Nat} {Q : AEx → (Nat → AV) → Heap → Nat → Prop}
end
theorem AppD_nil (H : Heap) (n : Nat) (k : AV → Heap → Nat → Prop) (s by' : Nat) (C : Prop) (eo : Option Nat) (ys : List AV) : AppD H n k .nilsl (some (s, by')) (some (C, eo, ys)) = ((C ∧ (eo = none ∨ eo = some s) ∧ ys.length * by' ≤ 140737488355328 ∧ ys.length ≤ 4611686018427387904) ∧ k (.osl n 0 0 ys.length) (H.put n (some (.arr 0 s ys))) (n + 1)) := rfl
theorem AppD_osl (H : Heap) (n : Nat) (k : AV → Heap → Nat → Prop) (kk ver off len s by' : Nat) (C : Prop) (eo : Option Nat) (ys : List AV) : AppD H n k (.osl kk ver off len) (some (s, by')) (some (C, eo, ys)) = AppO ver off len s by' kk H n C eo ys k (H kk) := rfl
def AppK (k : AV → Heap → Nat → Prop) (H : Heap) (n kk ver esz len : Nat) (els ys : List AV) : Prop :=
 k (.osl kk ver 0 (len + ys.length)) (H.put kk (some (.arr ver esz (els ++ ys)))) n ∧ k (.osl n 0 0 (len + ys.length)) (H.put n (some (.arr 0 esz (els ++ ys)))) (n + 1)
theorem AppO_some2 (ver off len s by' kk : Nat) (H : Heap) (n : Nat) (C : Prop) (eo : Option Nat) (ys : List AV) (k : AV → Heap → Nat → Prop) (ver' esz : Nat) (els : List AV) : AppO ver off len s by' kk H n C eo ys k (some (.arr ver' esz els)) = ((ver = ver' ∧ off = 0 ∧ len = els.length ∧ esz = s ∧ C ∧ (eo = none ∨ eo = some s) ∧ 0 < ys.length ∧ (len + ys.length) * by' ≤ 140737488355328 ∧ len + ys.length ≤ 4611686018427387904) ∧
 AppK k H n kk ver esz len els ys) := rfl
theorem AppK.all {k : AV → Heap → Nat → Prop} {H : Heap} {n kk ver esz len : Nat} {els ys : List AV} (hkk : kk < n)
   (h : ∀ gk gv H2 n2, n ≤ n2 → gk < n2 → (gk = kk ∨ n ≤ gk) → H2 gk = some (.arr gv esz (els ++ ys)) → (H2 kk = some (.arr ver esz els) ∨ H2 kk = some (.arr ver esz (els ++ ys))) → (∀ j, j < n → j ≠ kk → H2 j = H j) → k (.osl gk gv 0 (len + ys.length)) H2 n2)
   (hH : H kk = some (.arr ver esz els)) : AppK k H n kk ver esz len els ys := by
 refine ⟨h _ _ _ _ (Nat.le_refl _) hkk (.inl rfl) (MG _ _ _) (.inr (MG _ _ _)) (fun j _ hj => ME _ _ hj), h _ _ _ _ (by omega) (by omega) (.inr (Nat.le_refl _)) (MG _ _ _) (.inl ?_) (fun j hn hj => ME _ _ (by omega))⟩
 rw [ME _ _ (by omega)]; exact hH
attribute [go_sem] AppD_nil AppD_osl AppO_some2 List.drop_succ_cons List.drop_zero List.drop_nil
def pwB (ps : List Nat) : List Nat → Bool
 | [] => true
 | a :: l => (l.all fun b => decide (ps.getD a 0 < ps.getD b 0)) && pwB ps l
theorem pwB_spec {ps : List Nat} : ∀ {l : List Nat}, pwB ps l = true → l.Pairwise fun a b => ps.getD a 0 < ps.getD b 0
 | [], _ => .nil
 | a :: l, h => by
   rw [pwB, Bool.and_eq_true] at h
   exact .cons (fun b hb => of_decide_eq_true (List.all_eq_true.1 h.1 b hb)) (pwB_spec h.2)
def incP (l : List Oper) (b : List Nat) (ps : List Nat) (j q : Nat) : Bool :=
 match l[q]? with
 | none => false
 | some oq => decide (ps.getD q 0 < ps.getD j 0) && disj oq.dst.toList (XN l oq) &&
   (List.range l.length).all fun p => !decide (ps.getD p 0 < ps.getD j 0) || (p == q || Y8 b p q || (match l[p]? with | some op => disj op.dst.toList (XN l oq ++ oq.dst.toList) | none => true))
def pairAA (l : List Oper) (b : List Nat) (i : Nat) (oi oj : Oper) : DK → DK → Bool
 | .a _ inci, .a _ incj => apartB l oi oj && (incj.all fun q => q == i || inci.contains q || Y8 b i q) && disj oj.dst.toList (inci.flatMap fun q => match l[q]? with | some o => XN l o ++ o.dst.toList | none => [])
 | _, _ => false
def DK.isA : DK → Bool
 | .a _ _ => true
 | _ => false
def VS (l : List Oper) (N : Nat) (ks : List DK) (ord ps : List Nat) : Bool :=
 let b := ancs [] l
 ks.length == l.length &&
 (l.zipIdx.all fun (o, i) => (Yv o).all fun e => decide (e < i)) &&
 ((l.zip ks).zipIdx.all fun ((oj, kj), j) =>
   (match kj with | .w inc => inc.all fun q => incP l b ps j q | .a _ inc => inc.all fun q => incP l b ps j q | _ => true) &&
   ((l.zip ks).zipIdx).all fun ((oi, ki), i) => !decide (ps.getD i 0 < ps.getD j 0) || (Y8 b i j || (pairB l N i j oi oj ki kj && (selfB l oi || ki.isW)) || pairAA l b i oi oj ki kj)) &&
 ord.all (fun i => decide (i < l.length)) && (List.range l.length).all (fun i => ord.contains i) && pwB ps ord &&
 (l.zipIdx.all fun (o, i) => (Yv o).all fun e => decide (ps.getD e 0 < ps.getD i 0)) && ord.length == l.length
section
variable {P : Program} {z : TypeId → AV} {N : Nat} {ops : Array Oper}
def PairAA (ops : Array Oper) (i : Nat) (ki : DK) (j : Nat) (kj : DK) : Prop :=
 ∃ oi oj, ops[i]? = some oi ∧ ops[j]? = some oj ∧ Apart (ops := ops) oi oj ∧ ∃ a inci b incj, ki = .a a inci ∧ kj = .a b incj ∧ (∀ q ∈ incj, q ≠ i → q ∈ inci ∨ Y8 (ancs [] ops.toList) i q = true) ∧ ∀ q ∈ inci, ∀ o, ops[q]? = some o → ∀ d, oj.dst = some d → d ∉ looks (ops := ops) o ∧ o.dst ≠ some d
theorem frontP (pos : Nat → Nat) {Q : AEx → (Nat → AV) → Heap → Nat → Prop} (hpan : ∀ p T T' H n, Q (.pan p) T H n → Q (.pan p) T' H n) (j : Nat) (kj : DK) :
   ∀ (m : Nat) (pre : List (Nat × DK × List Nat)) (I : List Nat) (post : List (Nat × DK × List Nat)) (T : Nat → AV) (H : Heap) (n : Nat), pre.length = m →
     (∀ p ∈ pre, p.2.2 = p.2.1.inc) → (∀ p ∈ pre, Qm ops N p.1 p.2.1 j kj ∨ PairAA ops p.1 p.2.1 j kj) → (kj.isW = true → ∀ p ∈ pre, p.2.1 = .m ∨ p.1 ∈ I ∨ p.2.1.isA = true) → (∀ q ∈ I, q ∈ kj.inc ∧ ∀ p ∈ pre, Y8 (ancs [] ops.toList) p.1 q = true → q ∈ pre.map (·.1) ∧ pos p.1 < pos q) →
     (pre.map (·.1)).Pairwise (fun a b => pos a < pos b) → (kj.isW = true → ∀ q ∈ I, ∀ p ∈ pre, p.1 ≠ q → (pos p.1 < pos q ∧ q ∈ pre.map (·.1)) ∨ Un ops p.1 q) →
     drun P z N ops (pre ++ (j, kj, I) :: post) T H n Q → ∃ I', Yg P z N ops j kj I' T H n (fun T H n => drun P z N ops (pre ++ post) T H n Q) Q
 | 0, pre, I, post, T, H, n, hm, _, _, _, _, _, _, h => by
   have : pre = [] := List.length_eq_zero_iff.1 hm
   subst this
   exact ⟨I, h⟩
 | m + 1, pre, I, post, T, H, n, hm, hinc, hpair, hin, hII, hsort, hCI, h => by
   rcases List.eq_nil_or_concat pre with rfl | ⟨L, ⟨i, ki, Ii⟩, rfl⟩
   ·simp at hm
   ·simp only [List.concat_eq_append] at *
    rw [List.append_assoc] at h
    simp only [List.cons_append, List.nil_append] at h
    have hLm : L.length = m := by simpa using hm
    rw [List.map_append, List.pairwise_append] at hsort
    obtain ⟨hsortL, _, hlt⟩ := hsort
    have hlt' : ∀ p ∈ L, pos p.1 < pos i := fun p hp => hlt p.1 (List.mem_map.2 ⟨p, hp, rfl⟩) i (by simp)
    have hlast : kj.isW = true → ∀ q ∈ I, q ≠ i → Un ops i q := fun hw q hq hne => by
      rcases hCI hw q hq (i, ki, Ii) (by simp) (fun e => hne e.symm) with ⟨h1, h2⟩ | h1
      ·exfalso
       rw [List.map_append, List.mem_append] at h2
       rcases h2 with h2 | h2
       ·obtain ⟨p, hp, e⟩ := List.mem_map.1 h2
        have := hlt' p hp
        simp only at h1 e
        subst e
        omega
       ·simp at h2; exact hne h2
      ·exact h1
    have hb : ∀ T H n, drun P z N ops ((i, ki, Ii) :: (j, kj, I) :: post) T H n Q → drun P z N ops ((j, kj, if kj.isW then I.filter (· != i) else I) :: (i, ki, Ii) :: post) T H n Q := fun T H n h => by
      rcases hpair (i, ki, Ii) (by simp) with ⟨oi, oj, hoi, hoj, hap, hcase⟩ | ⟨oi, oj, hoi, hoj, hap, a, inci, b, incj, rfl, rfl, h1, h2⟩
      ·rcases hcase with ⟨h1, h2⟩ | ⟨h1, h2, h3, h4⟩ | ⟨h1, h2, ⟨x, hx⟩, h4, h5, h6⟩
       ·simp only [h2, Bool.false_eq_true, if_false]
        exact swap_q hoi hoj h1 h2 hap h
       ·simp only [h2, if_true]
        have hin' : ki = .m ∨ i ∈ I := by
          rcases hin h2 (i, ki, Ii) (by simp) with h | h | h
          ·exact .inl h
          ·exact .inr h
          ·simp only at h; cases ki <;> simp [DK.isA, DK.isW] at h h1
        cases kj with
        | w inc => exact swap_w hoi hoj h1 hap h3 h4 hin' (fun q hq hne o ho d hd => hlast rfl q hq hne oi o hoi ho d hd) hpan h
        | a key inc => exact swap_a hoi hoj h1 hap h3 h4 hin' (fun q hq hne o ho d hd => hlast rfl q hq hne oi o hoi ho d hd) h
        | m => simp [DK.isW] at h2
        | q => simp [DK.isW] at h2
        | c => simp [DK.isW] at h2
       ·subst h2
        simp only [DK.isW, Bool.false_eq_true, if_false]
        cases ki with
        | w inc => exact swap_m hoi hoj hap hx h4 h5 (fun q hq => h6 q (hinc (i, .w inc, Ii) (by simp) ▸ hq)) hpan h
        | a key inc => exact swap_ma hoi hoj hap hx h4 h5 (fun q hq => h6 q (hinc (i, .a key inc, Ii) (by simp) ▸ hq)) h
        | m => simp [DK.isW] at h1
        | q => simp [DK.isW] at h1
        | c => simp [DK.isW] at h1
      ·have hIi : Ii = inci := hinc (i, .a a inci, Ii) (by simp)
       subst hIi
       simp only [DK.isW, if_true]
       refine swap_aa hoi hoj hap (fun q hq hne => (h1 q (hII q hq).1 hne).resolve_right fun ha => ?_) h2 h
       obtain ⟨g1, g2⟩ := (hII q hq).2 (i, .a a Ii, Ii) (by simp) ha
       rw [List.map_append, List.mem_append] at g1
       rcases g1 with g1 | g1
       ·obtain ⟨p, hp, e⟩ := List.mem_map.1 g1
        have := hlt' p hp
        rw [e] at this
        simp only at g2
        omega
       ·simp at g1; exact hne g1
    have h2 := VI hb L T H n h
    obtain ⟨I', hI'⟩ := frontP pos hpan j kj m L (if kj.isW then I.filter (· != i) else I) ((i, ki, Ii) :: post) T H n hLm (fun p hp => hinc p (by simp [hp])) (fun p hp => hpair p (by simp [hp]))
      (fun hw p hp => (hin hw p (by simp [hp])).imp id fun h => h.imp (fun h => by
        rw [if_pos hw]
        exact List.mem_filter.2 ⟨h, by have := hlt' p hp; simp; intro e; rw [e] at this; omega⟩) id)
      (fun q hq => by
        have hqI : q ∈ I := by
          split at hq
          ·exact (List.mem_filter.1 hq).1
          ·exact hq
        refine ⟨(hII q hqI).1, fun p hp ha => ?_⟩
        obtain ⟨g1, g2⟩ := (hII q hqI).2 p (by simp [hp]) ha
        refine ⟨?_, g2⟩
        rw [List.map_append, List.mem_append] at g1
        rcases g1 with g1 | g1
        ·exact g1
        ·simp only [List.map_cons, List.map_nil, List.mem_singleton] at g1
         subst g1
         split at hq
         ·simp at hq
         ·rename_i hw
          exfalso
          have := (hII q hqI).1
          cases kj <;> simp [DK.isW, DK.inc] at hw this) hsortL
      (fun hw q hq p hp hne => by
        rw [if_pos hw] at hq
        obtain ⟨hq1, hq2⟩ := List.mem_filter.1 hq
        rcases hCI hw q hq1 p (by simp [hp]) hne with ⟨h1, h2⟩ | h1
        ·rw [List.map_append, List.mem_append] at h2
         rcases h2 with h2 | h2
         ·exact .inl ⟨h1, h2⟩
         ·simp at h2 hq2; exact absurd h2 hq2
        ·exact .inr h1) h2
    exact ⟨I', by rw [List.append_assoc]; exact hI'⟩
structure JM (ops : Array Oper) (N : Nat) (ks : List DK) (ord : List Nat) (pos : Nat → Nat) : Prop where
 mem : ∀ i, i ∈ ord ↔ i < ops.size
 srt : ord.Pairwise fun a b => pos a < pos b
 lin : ∀ i o, ops[i]? = some o → ∀ e ∈ Yv o, pos e < pos i
 len : ks.length = ops.size
 edges : ∀ i o, ops[i]? = some o → ∀ e ∈ Yv o, e < i
 pair : ∀ i j ki kj, pos i < pos j → ks[i]? = some ki → ks[j]? = some kj → Y8 (ancs [] ops.toList) i j = false → (Qm ops N i ki j kj ∧ (kj.isW = true → ki = .m ∨ i ∈ kj.inc)) ∨ (PairAA ops i ki j kj ∧ ki.isA = true)
 inc : ∀ j kj, ks[j]? = some kj → ∀ q ∈ kj.inc, (pos q < pos j ∧ q < ops.size) ∧ ∀ p, p < ops.size → pos p < pos j → p ≠ q → Y8 (ancs [] ops.toList) p q = false → Un ops p q
theorem Vo {ks : List DK} {ord ps : List Nat} (h : VS ops.toList N ks ord ps = true) : JM ops N ks ord (fun i => ps.getD i 0) := by
 unfold VS at h
 simp only [Bool.and_eq_true] at h
 obtain ⟨⟨⟨⟨⟨⟨⟨h1, h2⟩, h3⟩, m1⟩, m2⟩, m3⟩, m4⟩, _⟩ := h
 have hlen : ks.length = ops.size := by simpa using h1
 have hzip : ∀ i o k, ops[i]? = some o → ks[i]? = some k → (ops.toList.zip ks)[i]? = some (o, k) := fun i o k ho hk => by
   rw [List.getElem?_zip_eq_some]; exact ⟨by simpa using ho, hk⟩
 have hop : ∀ (i : Nat) (k : DK), ks[i]? = some k → ∃ o, ops[i]? = some o := fun i k hk => by
   have : i < ks.length := by
     rcases Nat.lt_or_ge i ks.length with h | h
     ·exact h
     ·rw [List.getElem?_eq_none h] at hk; simp at hk
   exact ⟨ops[i]'(by omega), by simp [Array.getElem?_eq_getElem (show i < ops.size by omega)]⟩
 have hdisj : ∀ {d : Option Tmp} {l : List Nat}, disj d.toList l = true → ∀ x, d = some x → x ∉ l := fun h x hx => Uh h (by simp [hx])
 refine ⟨fun i => ?_, pwB_spec m3, fun i o ho e he => ?_, hlen, fun i o ho e he => ?_, fun i j ki kj hij hki hkj hanc => ?_, fun j kj hkj q hq => ?_⟩
 ·constructor
  ·intro h; have := of_decide_eq_true (List.all_eq_true.1 m1 i h); simpa using this
  ·intro h; have := List.all_eq_true.1 m2 i (List.mem_range.2 (by simpa using h)); simpa using this
 ·have := List.all_eq_true.1 m4 (o, i) (XH _ _ _ (by simpa using ho))
  exact of_decide_eq_true (List.all_eq_true.1 this e he)
 ·have := List.all_eq_true.1 h2 (o, i) (XH _ _ _ (by simpa using ho))
  exact of_decide_eq_true (List.all_eq_true.1 this e he)
 ·obtain ⟨oi, hoi⟩ := hop i ki hki
  obtain ⟨oj, hoj⟩ := hop j kj hkj
  have hj := List.all_eq_true.1 h3 ((oj, kj), j) (XH _ _ _ (hzip j oj kj hoj hkj))
  simp only [Bool.and_eq_true] at hj
  have hi := List.all_eq_true.1 hj.2 ((oi, ki), i) (XH _ _ _ (hzip i oi ki hoi hki))
  have hij' : decide (ps.getD i 0 < ps.getD j 0) = true := decide_eq_true hij
  simp only [hij', Bool.not_true, hanc, Bool.false_or, Bool.and_eq_true, Bool.or_eq_true] at hi
  rcases hi with hi | hi
  rotate_left
  ·right
   unfold pairAA at hi
   split at hi
   ·rename_i a inci b incj
    simp only [Bool.and_eq_true] at hi
    obtain ⟨⟨g1, g2⟩, g3⟩ := hi
    refine ⟨⟨oi, oj, hoi, hoj, Qk g1, a, inci, b, incj, rfl, rfl, fun q hq hne => ?_, fun q hq o ho d hd => ?_⟩, rfl⟩
    ·have := List.all_eq_true.1 g2 q hq
     simp only [Bool.or_eq_true, beq_iff_eq] at this
     rcases this with (h | h) | h
     ·exact absurd h hne
     ·left; simpa using h
     ·exact .inr h
    ·have hn := hdisj g3 d hd
     have : ∀ x, x ∈ XN ops.toList o ++ o.dst.toList → d ≠ x := fun x hx e => hn (List.mem_flatMap.2 ⟨q, hq, by simp only [Array.getElem?_toList, ho]; rw [e]; exact hx⟩)
     refine ⟨fun hm => ?_, fun e => ?_⟩
     ·rw [← YY] at hm
      exact this d (List.mem_append_left _ hm) rfl
     ·exact this d (List.mem_append_right _ (by simp [e])) rfl
   ·simp at hi
  left
  obtain ⟨hp, hself⟩ := hi
  unfold pairB at hp
  rw [Bool.and_eq_true] at hp
  obtain ⟨hap, hp⟩ := hp
  have hA := Qk hap
  have hs : ki.isW = false → ∀ d, oi.dst = some d → d ∉ looks (ops := ops) oi := fun hk d hd => by
    rw [hk] at hself
    have := hself.resolve_right (by simp)
    rw [← YY]; exact hdisj this d hd
  have mres : ki.isW = false → kj.isW = false → Qm ops N i ki j kj := fun a b => ⟨oi, oj, hoi, hoj, hA, .inl ⟨a, b⟩⟩
  cases kj with
  | a key inc =>
    cases ki with
    | w inc' => simp at hp
    | a key' inc' => simp at hp
    | m => exact ⟨⟨oi, oj, hoi, hoj, hA, .inr (.inl ⟨rfl, rfl, hs rfl, .inl rfl⟩)⟩, fun _ => .inl rfl⟩
    | q =>
      simp only [Bool.and_eq_true, Bool.or_eq_true, Bool.not_eq_true'] at hp
      refine ⟨⟨oi, oj, hoi, hoj, hA, .inr (.inl ⟨rfl, rfl, hs rfl, .inr ?_⟩)⟩, fun _ => .inr (by simpa [DK.inc] using hp.1)⟩
      rcases hp.2 with h | h
      ·left; cases hd : oi.dst <;> simp_all
      ·right; intro fo args ts e; rw [e] at h; simp [WQ] at h
    | c =>
      simp only [Bool.and_eq_true, Bool.or_eq_true, Bool.not_eq_true'] at hp
      refine ⟨⟨oi, oj, hoi, hoj, hA, .inr (.inl ⟨rfl, rfl, hs rfl, .inr ?_⟩)⟩, fun _ => .inr (by simpa [DK.inc] using hp.1)⟩
      rcases hp.2 with h | h
      ·left; cases hd : oi.dst <;> simp_all
      ·right; intro fo args ts e; rw [e] at h; simp [WQ] at h
  | w inc =>
    cases ki with
    | w inc' => simp at hp
    | a key' inc' => simp at hp
    | m => exact ⟨⟨oi, oj, hoi, hoj, hA, .inr (.inl ⟨rfl, rfl, hs rfl, .inl rfl⟩)⟩, fun _ => .inl rfl⟩
    | q =>
      simp only [Bool.and_eq_true, Bool.or_eq_true, Bool.not_eq_true'] at hp
      refine ⟨⟨oi, oj, hoi, hoj, hA, .inr (.inl ⟨rfl, rfl, hs rfl, .inr ?_⟩)⟩, fun _ => .inr (by simpa [DK.inc] using hp.1)⟩
      rcases hp.2 with h | h
      ·left; cases hd : oi.dst <;> simp_all
      ·right; intro fo args ts e; rw [e] at h; simp [WQ] at h
    | c =>
      simp only [Bool.and_eq_true, Bool.or_eq_true, Bool.not_eq_true'] at hp
      refine ⟨⟨oi, oj, hoi, hoj, hA, .inr (.inl ⟨rfl, rfl, hs rfl, .inr ?_⟩)⟩, fun _ => .inr (by simpa [DK.inc] using hp.1)⟩
      rcases hp.2 with h | h
      ·left; cases hd : oi.dst <;> simp_all
      ·right; intro fo args ts e; rw [e] at h; simp [WQ] at h
  | m =>
    cases ki with
    | w inc' =>
      simp only [Bool.and_eq_true] at hp
      obtain ⟨⟨⟨p1, p2⟩, p3⟩, p4⟩ := hp
      refine ⟨⟨oi, oj, hoi, hoj, hA, .inr (.inr ⟨rfl, rfl, ?_, ?_, ?_, fun q hq o ho d hd => ?_⟩)⟩, fun h => by simp [DK.isW] at h⟩
      ·unfold J6 at p1; split at p1
       ·rename_i x e; exact ⟨x, e⟩
       ·simp at p1
      ·simpa using p2
      ·cases hd : oj.dst with
       | none => trivial
       | some d => rw [hd] at p3; show d < N; exact of_decide_eq_true p3
      ·have hn := hdisj p4 d hd
       have : ∀ x, x ∈ XN ops.toList o ++ o.dst.toList → d ≠ x := fun x hx e => hn (List.mem_flatMap.2 ⟨q, hq, by simp only [Array.getElem?_toList, ho]; rw [e]; exact hx⟩)
       refine ⟨fun hm => ?_, fun e => ?_⟩
       ·rw [← YY] at hm
        exact this d (List.mem_append_left _ hm) rfl
       ·exact this d (List.mem_append_right _ (by simp [e])) rfl
    | a key' inc' =>
      simp only [Bool.and_eq_true] at hp
      obtain ⟨⟨⟨p1, p2⟩, p3⟩, p4⟩ := hp
      refine ⟨⟨oi, oj, hoi, hoj, hA, .inr (.inr ⟨rfl, rfl, ?_, ?_, ?_, fun q hq o ho d hd => ?_⟩)⟩, fun h => by simp [DK.isW] at h⟩
      ·unfold J6 at p1; split at p1
       ·rename_i x e; exact ⟨x, e⟩
       ·simp at p1
      ·simpa using p2
      ·cases hd : oj.dst with
       | none => trivial
       | some d => rw [hd] at p3; show d < N; exact of_decide_eq_true p3
      ·have hn := hdisj p4 d hd
       have : ∀ x, x ∈ XN ops.toList o ++ o.dst.toList → d ≠ x := fun x hx e => hn (List.mem_flatMap.2 ⟨q, hq, by simp only [Array.getElem?_toList, ho]; rw [e]; exact hx⟩)
       refine ⟨fun hm => ?_, fun e => ?_⟩
       ·rw [← YY] at hm
        exact this d (List.mem_append_left _ hm) rfl
       ·exact this d (List.mem_append_right _ (by simp [e])) rfl
    | m => exact ⟨mres rfl rfl, fun h => by simp [DK.isW] at h⟩
    | q => exact ⟨mres rfl rfl, fun h => by simp [DK.isW] at h⟩
    | c => exact ⟨mres rfl rfl, fun h => by simp [DK.isW] at h⟩
  | q =>
    cases ki with
    | w inc' => simp at hp
    | a key' inc' => simp at hp
    | m => exact ⟨mres rfl rfl, fun h => by simp [DK.isW] at h⟩
    | q => exact ⟨mres rfl rfl, fun h => by simp [DK.isW] at h⟩
    | c => exact ⟨mres rfl rfl, fun h => by simp [DK.isW] at h⟩
  | c =>
    cases ki with
    | w inc' => simp at hp
    | a key' inc' => simp at hp
    | m => exact ⟨mres rfl rfl, fun h => by simp [DK.isW] at h⟩
    | q => exact ⟨mres rfl rfl, fun h => by simp [DK.isW] at h⟩
    | c => exact ⟨mres rfl rfl, fun h => by simp [DK.isW] at h⟩
 ·obtain ⟨oj, hoj⟩ := hop j kj hkj
  have hj := List.all_eq_true.1 h3 ((oj, kj), j) (XH _ _ _ (hzip j oj kj hoj hkj))
  simp only [Bool.and_eq_true] at hj
  cases kj with
  | m => simp [DK.inc] at hq
  | q => simp [DK.inc] at hq
  | c => simp [DK.inc] at hq
  | w inc =>
    have hb := List.all_eq_true.1 hj.1 q hq
    unfold incP at hb
    split at hb
    ·simp at hb
    ·rename_i oq hoq
     simp only [Bool.and_eq_true] at hb
     obtain ⟨⟨b1, b2⟩, b3⟩ := hb
     refine ⟨⟨of_decide_eq_true b1, by
       rcases Nat.lt_or_ge q ops.size with h9 | h9
       ·exact h9
       ·rw [Array.getElem?_toList, Array.getElem?_eq_none h9] at hoq; cases hoq⟩, fun p hps hp hne hanc op oq' hop hoq' d hd => ?_⟩
     have hoq2 : oq' = oq := by
       rw [Array.getElem?_toList] at hoq
       rw [hoq'] at hoq; exact Option.some.inj hoq
     subst hoq2
     have := List.all_eq_true.1 b3 p (List.mem_range.2 (by simpa using hps))
     have hp' : decide (ps.getD p 0 < ps.getD j 0) = true := decide_eq_true hp
     simp only [hp', Bool.not_true, Bool.false_or, hanc, Bool.or_false, Bool.or_eq_true, beq_iff_eq, Array.getElem?_toList, hop] at this
     have h5 := this.resolve_left hne
     have hn := hdisj h5 d hd
     refine ⟨fun hm => hn (List.mem_append_left _ (by rw [YY]; exact hm)), fun e => hn (List.mem_append_right _ (by simp [e]))⟩
  | a key inc =>
    have hb := List.all_eq_true.1 hj.1 q hq
    unfold incP at hb
    split at hb
    ·simp at hb
    ·rename_i oq hoq
     simp only [Bool.and_eq_true] at hb
     obtain ⟨⟨b1, b2⟩, b3⟩ := hb
     refine ⟨⟨of_decide_eq_true b1, by
       rcases Nat.lt_or_ge q ops.size with h9 | h9
       ·exact h9
       ·rw [Array.getElem?_toList, Array.getElem?_eq_none h9] at hoq; cases hoq⟩, fun p hps hp hne hanc op oq' hop hoq' d hd => ?_⟩
     have hoq2 : oq' = oq := by
       rw [Array.getElem?_toList] at hoq
       rw [hoq'] at hoq; exact Option.some.inj hoq
     subst hoq2
     have := List.all_eq_true.1 b3 p (List.mem_range.2 (by simpa using hps))
     have hp' : decide (ps.getD p 0 < ps.getD j 0) = true := decide_eq_true hp
     simp only [hp', Bool.not_true, Bool.false_or, hanc, Bool.or_false, Bool.or_eq_true, beq_iff_eq, Array.getElem?_toList, hop] at this
     have h5 := this.resolve_left hne
     have hn := hdisj h5 d hd
     refine ⟨fun hm => hn (List.mem_append_left _ (by rw [YY]; exact hm)), fun e => hn (List.mem_append_right _ (by simp [e]))⟩
theorem KC {ks : List DK} {ord : List Nat} {pos : Nat → Nat} (hc : JM ops N ks ord pos) {listed : Array Bool} (hcl : ∀ i o, ops[i]? = some o → listed.getD i true = true → ∀ e ∈ Yv o, listed.getD e true = true)
   (i : Nat) (o : Oper) (ho : ops[i]? = some o) (hi : ∀ e ∈ Yv o, listed.getD e true = true) (p : Nat) (hp : Y8 (ancs [] ops.toList) p i = true) : listed.getD p true = true := by
 induction i using Nat.strongRecOn generalizing o with
 | _ i ih =>
   obtain ⟨e, he, h⟩ := Uo ops.toList [] i o (by simpa using ho) (by simpa using hc.edges i o ho) p (by simpa [Y8] using hp)
   rcases h with rfl | h
   ·exact hi _ he
   ·have hlt := hc.edges i o ho e he
    have hsz : i < ops.size := by
      rcases Nat.lt_or_ge i ops.size with h | h
      ·exact h
      ·rw [Array.getElem?_eq_none h] at ho; simp at ho
    have hoe : ops[e]? = some (ops[e]'(by omega)) := Array.getElem?_eq_getElem (by omega)
    exact ih e hlt _ hoe (hcl e _ hoe (hi e he)) (by simpa [Y8] using h)
def X5 (ord : List Nat) (listed : Array Bool) : List Nat := ord.filter fun i => !listed.getD i true
theorem JW {ks : List DK} {ord : List Nat} {pos : Nat → Nat} (hc : JM ops N ks ord pos) (listed : Array Bool) (hsz : listed.size = ops.size) (i : Nat) : i ∈ Region.ready .any ops listed ↔ i < ops.size ∧ listed.getD i true = false ∧ ∀ o, ops[i]? = some o → ∀ e ∈ Yv o, listed.getD e true = true := by
 unfold Region.ready
 rw [List.mem_filter, List.mem_range]
 refine and_congr_right fun hi => ?_
 have hoi : ops[i]? = some ops[i] := Array.getElem?_eq_getElem hi
 have hdef : ∀ e ∈ Yv ops[i], listed.getD e false = listed.getD e true := fun e he => by
   have := hc.edges i _ hoi e he
   simp [show e < listed.size by omega]
 rw [hoi]
 simp only [Option.map_some, Option.getD_some, Bool.and_eq_true, Bool.not_eq_true', Option.some.injEq]
 refine and_congr_right fun _ => ?_
 constructor
 ·rintro h o rfl e he
  unfold Yv at he
  obtain ⟨ed, hed, rfl⟩ := List.mem_map.1 he
  obtain ⟨hm, hbind⟩ := List.mem_filter.1 hed
  have := Array.all_eq_true_iff_forall_mem.1 h ed (by simpa using hm)
  rw [← hdef ed.on (List.mem_map.2 ⟨ed, List.mem_filter.2 ⟨hm, hbind⟩, rfl⟩)]
  simpa [hbind] using this
 ·intro h
  rw [Array.all_eq_true_iff_forall_mem]
  intro ed hm
  cases hb : Region.binds .any ed with
  | false => simp
  | true =>
    have hin : ed.on ∈ Yv ops[i] := List.mem_map.2 ⟨ed, List.mem_filter.2 ⟨by simpa using hm, hb⟩, rfl⟩
    rw [hdef _ hin]
    simpa using h _ rfl ed.on hin
theorem Ka {ks : List DK} {ord : List Nat} {pos : Nat → Nat} (hc : JM ops N ks ord pos) {Q : AEx → (Nat → AV) → Heap → Nat → Prop} (hpan : ∀ p T T' H n, Q (.pan p) T H n → Q (.pan p) T' H n) {ds : List Deferred} {c0 : Ctx} {H0 : Heap} {w0 : World} :
   ∀ (fuel : Nat) (listed : Array Bool), listed.size = ops.size → (X5 ord listed).length = fuel → (∀ i o, ops[i]? = some o → listed.getD i true = true → ∀ e ∈ Yv o, listed.getD e true = true) →
     ∀ (c : Ctx) (w : World) (a : Act) (T : Nat → AV) (H : Heap) (n : Nat), Step c0 H0 w0 c H n w → Z4 c T a.tmps → a.tmps.size = N → a.defers = ds →
       drun P z N ops ((X5 ord listed).map (item ks)) T H n Q → wpAny P .any ops (Qp N ds c0 H0 w0 Q) fuel listed a w
 | 0, listed, hsz, hlen, hcl, c, w, a, T, H, n, hst, hr, hN, hd, h => by
   have hnil : X5 ord listed = [] := List.length_eq_zero_iff.1 hlen
   rw [hnil] at h
   refine ⟨?_, .normal, c, T, H, n, h, trivial, hst, hr, hN, hd⟩
   rw [List.eq_nil_iff_forall_not_mem]
   intro i hi
   obtain ⟨h1, h2, _⟩ := (JW hc listed hsz i).1 hi
   have : i ∈ X5 ord listed := List.mem_filter.2 ⟨(hc.mem i).2 h1, by simp only [h2]; rfl⟩
   rw [hnil] at this; simp at this
 | fuel + 1, listed, hsz, hlen, hcl, c, w, a, T, H, n, hst, hr, hN, hd, h => by
   have hmem : ∀ i, i ∈ X5 ord listed ↔ i < ops.size ∧ listed.getD i true = false := fun i => by
     unfold X5; rw [List.mem_filter, hc.mem]; simp
   have hsorted : (X5 ord listed).Pairwise (fun a b => pos a < pos b) := List.Pairwise.filter _ hc.srt
   refine ⟨fun hnone => ?_, fun i hi => ?_⟩
   ·-- the first that is left is ready
    exfalso
    cases hrest : X5 ord listed with
    | nil => rw [hrest] at hlen; simp at hlen
    | cons i l =>
      obtain ⟨h1, h2⟩ := (hmem i).1 (by rw [hrest]; simp)
      have hready : i ∈ Region.ready .any ops listed := (JW hc listed hsz i).2 ⟨h1, h2, fun o ho e he => by
        have hlt := hc.lin i o ho e he
        have hlt2 := hc.edges i o ho e he
        cases hle : listed.getD e true with
        | true => rfl
        | false =>
          have : e ∈ X5 ord listed := (hmem e).2 ⟨by omega, hle⟩
          rw [hrest] at this hsorted
          rcases List.mem_cons.1 this with e1 | e1
          ·subst e1; omega
          ·have := (List.pairwise_cons.1 hsorted).1 e e1; omega⟩
      rw [hnone] at hready; simp at hready
   ·obtain ⟨h1, h2, h3⟩ := (JW hc listed hsz i).1 hi
    have hin : i ∈ X5 ord listed := (hmem i).2 ⟨h1, h2⟩
    obtain ⟨pre, post, hsplit⟩ := List.append_of_mem hin
    have hoi : ops[i]? = some ops[i] := Array.getElem?_eq_getElem h1
    have hks : ∀ p, p < ops.size → ks[p]? = some (ks.getD p .m) := fun p hp => by
      have : p < ks.length := by rw [hc.len]; exact hp
      simp [List.getD, List.getElem?_eq_getElem this]
    rw [hsplit] at hsorted
    have hsort2 := List.pairwise_append.1 hsorted
    have hpre : ∀ p ∈ pre, pos p < pos i ∧ p < ops.size ∧ listed.getD p true = false := fun p hp => by
      have hpr : p ∈ X5 ord listed := by rw [hsplit]; simp [hp]
      exact ⟨hsort2.2.2 p hp i (by simp), (hmem p).1 hpr⟩
    have hnanc : ∀ p ∈ pre, Y8 (ancs [] ops.toList) p i = false := fun p hp => by
      cases hh : Y8 (ancs [] ops.toList) p i with
      | false => rfl
      | true =>
        have := KC hc hcl i _ hoi (h3 _ hoi) p hh
        rw [(hpre p hp).2.2] at this; simp at this
    have hpairs : ∀ p ∈ pre, (Qm ops N p (ks.getD p .m) i (ks.getD i .m) ∧ ((ks.getD i .m).isW = true → ks.getD p .m = .m ∨ p ∈ (ks.getD i .m).inc)) ∨ (PairAA ops p (ks.getD p .m) i (ks.getD i .m) ∧ (ks.getD p .m).isA = true) := fun p hp =>
      hc.pair p i _ _ (hpre p hp).1 (hks p (hpre p hp).2.1) (hks i h1) (hnanc p hp)
    have hanl : ∀ q ∈ (ks.getD i .m).inc, ∀ x ∈ pre, Y8 (ancs [] ops.toList) x q = true → pos x < pos q ∧ q ∈ (pre.map (item ks)).map (·.1) := fun q hq x hx hh => by
      obtain ⟨hqi, hqa⟩ := hc.inc i _ (hks i h1) q hq
      have hqs : q < ops.size := hqi.2
      have hqi := hqi.1
      have hoq : ops[q]? = some ops[q] := Array.getElem?_eq_getElem hqs
      have hql : listed.getD q true = false := by
        cases hl : listed.getD q true with
        | false => rfl
        | true =>
          have := KC hc hcl q _ hoq (hcl q _ hoq hl) x hh
          rw [(hpre x hx).2.2] at this; simp at this
      have hqr : q ∈ X5 ord listed := (hmem q).2 ⟨hqs, hql⟩
      have hqpre : q ∈ pre := by
        rw [hsplit] at hqr
        rcases List.mem_append.1 hqr with h | h
        ·exact h
        ·rcases List.mem_cons.1 h with h | h
         ·subst h; omega
         ·have := (List.pairwise_cons.1 hsort2.2.1).1 q h; omega
      refine ⟨?_, List.mem_map.2 ⟨item ks q, List.mem_map.2 ⟨q, hqpre, rfl⟩, rfl⟩⟩
      have : ∀ (q : Nat) (o : Oper), ops[q]? = some o → ∀ x, Y8 (ancs [] ops.toList) x q = true → pos x < pos q := by
        intro q
        induction q using Nat.strongRecOn with
        | _ q ih =>
          intro o ho x hx
          obtain ⟨e, he, h⟩ := Uo ops.toList [] q o (by simpa using ho) (by simpa using hc.edges q o ho) x (by simpa [Y8] using hx)
          have hlt := hc.edges q o ho e he
          have hlt3 := hc.lin q o ho e he
          rcases h with rfl | h
          ·exact hlt3
          ·have hqs' : q < ops.size := by
             rcases Nat.lt_or_ge q ops.size with h | h
             ·exact h
             ·rw [Array.getElem?_eq_none h] at ho; simp at ho
           have := ih e hlt _ (Array.getElem?_eq_getElem (show e < ops.size by omega)) x (by simpa [Y8] using h)
           omega
      exact this q _ hoq x hh
    rw [hsplit, List.map_append, List.map_cons] at h
    obtain ⟨I', hstep⟩ := frontP pos hpan i (ks.getD i .m) (pre.map (item ks)).length (pre.map (item ks)) (ks.getD i .m).inc (post.map (item ks)) T H n rfl
      (fun p hp => by obtain ⟨x, hx, rfl⟩ := List.mem_map.1 hp; rfl)
      (fun p hp => by obtain ⟨x, hx, rfl⟩ := List.mem_map.1 hp; exact (hpairs x hx).imp (·.1) (·.1))
      (fun hw p hp => by
        obtain ⟨x, hx, rfl⟩ := List.mem_map.1 hp
        rcases hpairs x hx with h | h
        ·exact (h.2 hw).imp id .inl
        ·exact .inr (.inr h.2))
      (fun q hq => ⟨hq, fun p hp ha => by obtain ⟨x, hx, rfl⟩ := List.mem_map.1 hp; exact ⟨(hanl q hq x hx ha).2, (hanl q hq x hx ha).1⟩⟩)
      (by
        have e : (pre.map (item ks)).map (·.1) = pre := by simp [item, Function.comp_def]
        rw [e]; exact hsort2.1)
      (fun hw q hq p hp hne => by
        obtain ⟨x, hx, rfl⟩ := List.mem_map.1 hp
        simp only [item] at hne ⊢
        obtain ⟨hqi, hqa⟩ := hc.inc i _ (hks i h1) q hq
        cases hh : Y8 (ancs [] ops.toList) x q with
        | false => exact .inr (hqa x (hpre x hx).2.1 (hpre x hx).1 hne hh)
        | true => exact .inl (hanl q hq x hx hh)) h
    refine Ku hstep hst hr hN hd fun T' c' H' n' a' w' Y hst' hr' hN' hd' => ?_
    have hget : ∀ k, (listed.setIfInBounds i true).getD k true = if k = i then true else listed.getD k true := fun k => by
      simp only [Array.getD_eq_getD_getElem?, Array.getElem?_setIfInBounds]
      by_cases e : k = i
      ·subst e; simp [hsz, h1]
      ·simp [Ne.symm e, e]
    have hrest' : X5 ord (listed.setIfInBounds i true) = pre ++ post := by
      have e1 : X5 ord (listed.setIfInBounds i true) = (X5 ord listed).filter (· != i) := by
        unfold X5
        rw [List.filter_filter]
        apply List.filter_congr
        intro k _
        rw [hget]
        by_cases e : k = i <;> simp [e]
      rw [e1, hsplit, List.filter_append, List.filter_cons]
      have ep : pre.filter (· != i) = pre := List.filter_eq_self.2 fun p hp => by have := (hpre p hp).1; simp; intro e; rw [e] at this; omega
      have eq : post.filter (· != i) = post := List.filter_eq_self.2 fun p hp => by have := (List.pairwise_cons.1 hsort2.2.1).1 p hp; simp; intro e; rw [e] at this; omega
      simp [ep, eq]
    have hlen' : (X5 ord (listed.setIfInBounds i true)).length = fuel := by
      rw [hrest']
      rw [hsplit] at hlen
      simp at hlen ⊢; omega
    refine Ka hc hpan fuel _ (by simp [hsz]) hlen' (fun k o ho hk e he => ?_) c' w' a' T' H' n' hst' hr' hN' hd' ?_
    ·rw [hget] at hk ⊢
     split
     ·rfl
     ·by_cases ek : k = i
      ·subst ek
       exact h3 o ho e he
      ·rw [if_neg ek] at hk
       exact hcl k o ho hk e he
    ·rw [hrest', List.map_append]
     exact Y
theorem awp_drawP {id : Nat} {l : List Oper} {y : Code} {T : Nat → AV} {H : Heap} {n : Nat} {Q : AEx → (Nat → AV) → Heap → Nat → Prop} (hm : P.follows .mixedOrders = true) (z : TypeId → AV) (live : List Nat) (ks : List DK) (ord ps : List Nat)
   (hc : VS l N ks ord ps = true) (hpan : ∀ p T T' H n, Q (.pan p) T H n → Q (.pan p) T' H n)
   (h : ∀ K : (Nat → AV) → Heap → Nat → Prop, (∀ T H n, awp P N y T H n Q → K T H n) → drun P z N l.toArray (ord.map (item ks)) T H n (Yw (fun T' H' n' => K (tsel live T') H' n') Q)) :
   awp P N (.seq (.region id l.toArray true) y) T H n Q := by
 refine JK (Q := Q) ?_
 intro c w a hs hr hN ds hd
 refine wp_region_any hm ?_
 have hst : Step c H w c H n { w with drawn := w.drawn + 1 } := Step.drew hs
 have hcc := Vo (ops := l.toArray) (N := N) (ks := ks) (ord := ord) (ps := ps) (by simpa using hc)
 have hrest : X5 ord (Array.replicate l.toArray.size false) = ord := by
   unfold X5
   rw [List.filter_eq_self.2]
   intro i hi
   have hi : i < l.length := by simpa using (hcc.mem i).1 hi
   simp [hi]
 have hol : ord.length = l.toArray.size := by unfold VS at hc; simp only [Bool.and_eq_true, beq_iff_eq] at hc; simpa using hc.2
 rw [← hol]
 refine Ka (P := P) (z := z) (Q := Yw (fun T H n => awp P N y T H n Q) Q) (ops := l.toArray) hcc (fun p T T' H n hq => hpan p T T' H n hq) ord.length (Array.replicate ord.length false) (by simpa using hol) (by rw [hol, hrest]; exact hol) ?_ c _ a T H n hst hr hN hd ?_
 ·intro i o ho hi
  have : i < l.length := by
    rcases Nat.lt_or_ge i l.length with h | h
    ·exact h
    ·rw [List.getElem?_toArray, List.getElem?_eq_none h] at ho; simp at ho
  simp [this, hol] at hi
 ·rw [hol, hrest]
  have := h (fun T' H' n' => awp P N y T' H' n' Q) (fun _ _ _ h => h)
  have mono : ∀ (its : List (Nat × DK × List Nat)) (T : Nat → AV) (H : Heap) (n : Nat), drun P z N l.toArray its T H n (Yw (fun T' H' n' => awp P N y (tsel live T') H' n' Q) Q) →
      drun P z N l.toArray its T H n (Yw (fun T' H' n' => awp P N y T' H' n' Q) Q) := by
    intro its
    induction its with
    | nil => intro T H n hh; exact YR live hh
    | cons it its ih => intro T H n hh; obtain ⟨i, k, I⟩ := it; exact U3 (fun T H n h => ih T H n h) (fun p T H n h => h) hh
  exact mono _ _ _ _ this
theorem awp_drawP0 {id : Nat} {l : List Oper} {T : Nat → AV} {H : Heap} {n : Nat} {Q : AEx → (Nat → AV) → Heap → Nat → Prop} (hm : P.follows .mixedOrders = true) (z : TypeId → AV) (ks : List DK) (ord ps : List Nat)
   (hc : VS l N ks ord ps = true) (hpan : ∀ p T T' H n, Q (.pan p) T H n → Q (.pan p) T' H n)
   (h : drun P z N l.toArray (ord.map (item ks)) T H n Q) :
   awp P N (.region id l.toArray true) T H n Q := by
 intro c w a hs hr hN ds hd
 refine wp_region_any hm ?_
 have hst : Step c H w c H n { w with drawn := w.drawn + 1 } := Step.drew hs
 have hcc := Vo (ops := l.toArray) (N := N) (ks := ks) (ord := ord) (ps := ps) (by simpa using hc)
 have hrest : X5 ord (Array.replicate l.toArray.size false) = ord := by
   unfold X5
   rw [List.filter_eq_self.2]
   intro i hi
   have hi : i < l.length := by simpa using (hcc.mem i).1 hi
   simp [hi]
 have hol : ord.length = l.toArray.size := by unfold VS at hc; simp only [Bool.and_eq_true, beq_iff_eq] at hc; simpa using hc.2
 rw [← hol]
 refine Ka (P := P) (z := z) (Q := Q) (ops := l.toArray) hcc hpan ord.length (Array.replicate ord.length false) (by simpa using hol) (by rw [hol, hrest]; exact hol) ?_ c _ a T H n hst hr hN hd ?_
 ·intro i o ho hi
  have : i < l.length := by
    rcases Nat.lt_or_ge i l.length with h | h
    ·exact h
    ·rw [List.getElem?_toArray, List.getElem?_eq_none h] at ho; simp at ho
  simp [this, hol] at hi
 ·rw [hol, hrest]; exact h
end
def dkAt : List DK → Nat → Option DK
 | [], _ => none
 | k :: _, 0 => some k
 | _ :: l, i + 1 => dkAt l i
theorem dkAt_eq (l : List DK) (k : Nat) : dkAt l k = l[k]? := by
 induction l generalizing k with
 | nil => rfl
 | cons a l ih => cases k with
   | zero => rfl
   | succ k => simp [dkAt, ih]
def opk1 : Option Oper → Option DK → List (Oper × DK) → List (Oper × DK)
 | some o, some k, r => (o, k) :: r
 | _, _, r => r
def opkL (l : List Oper) (ks : List DK) : List Nat → List (Oper × DK)
 | [] => []
 | i :: is => opk1 (opAt l i) (dkAt ks i) (opkL l ks is)
theorem Md {P : Program} {z : TypeId → AV} {N : Nat} {l : List Oper} {ks : List DK} {Q : AEx → (Nat → AV) → Heap → Nat → Prop} (hl : ks.length = l.length) :
   ∀ (ord : List Nat) (T : Nat → AV) (H : Heap) (n : Nat), (∀ i ∈ ord, i < l.length) → dr P z N l (opkL l ks ord) T H n Q → drun P z N l.toArray (ord.map (item ks)) T H n Q
 | [], T, H, n, hk, h => h
 | k :: ord, T, H, n, hk, h => by
   have h1 : k < l.length := hk k (by simp)
   have h2 : k < ks.length := by omega
   have hlk : l[k]? = some l[k] := List.getElem?_eq_getElem h1
   rw [opkL, opAt_eq, dkAt_eq, hlk, List.getElem?_eq_getElem h2, opk1] at h
   have ih := fun (T : Nat → AV) (H : Heap) (n : Nat) => Md (P := P) (z := z) (N := N) (ks := ks) (Q := Q) hl ord T H n (fun i hi => hk i (by simp [hi]))
   rw [List.map_cons]
   have ei : item ks k = (k, ks[k], ks[k].inc) := by simp [item, List.getD, List.getElem?_eq_getElem h2]
   rw [ei]
   show Yg P z N l.toArray k ks[k] ks[k].inc T H n _ Q
   unfold Yg
   simp only [List.getElem?_toArray, hlk]
   generalize l[k] = o at h ⊢
   generalize ks[k] = kd at h ⊢
   obtain ⟨dst, op, ty, pos, after, guard⟩ := o
   cases guard with
   | none =>
     unfold dr at h
     refine ⟨h.1, ?_⟩
     have h := h.2
     cases kd with
     | m =>
       simp only [gvO, Yc, putG] at h ⊢
       split
       ·exact ih _ _ _ h
       ·rename_i hne; split at h
        ·exact (hne _ rfl).elim
        ·exact h
     | q =>
       simp only [gvO, Yc, putG] at h ⊢
       cases hq : opQ P z H true T op with
       | none => rw [hq] at h; exact h.elim
       | some p => rw [hq] at h; exact ⟨fun _ => h.1, ih _ _ _ h.2⟩
     | c =>
       simp only [gvO, Yc, putG] at h ⊢
       split
       ·rename_i fo args ts; obtain ⟨r, h1, h2⟩ := h; exact ⟨r, fun _ => h1 rfl, ih _ _ _ h2⟩
       ·rename_i hne; split at h
        ·exact (hne _ _ _ rfl).elim
        ·exact h
     | w inc =>
       simp only [DK.inc] at h ⊢
       refine ⟨trivial, ?_⟩
       split
       ·rename_i fo args ts
        exact UA (fun r H n hr => ⟨WC hr.1, ih _ _ _ hr.2⟩) h
       ·rename_i hne
        split at h
        ·rename_i fo args ts; exact (hne _ _ _ rfl).elim
        ·cases hw : opW P z H n T op with
         | none => rw [hw] at h; exact h.elim
         | some p => rw [hw] at h; exact ⟨h.1, WC h.2.1, ih _ _ _ h.2.2⟩
     | a key inc =>
       simp only [DK.inc] at h ⊢
       refine ⟨trivial, ?_⟩
       cases hw : opA P z H key n T op with
       | none => rw [hw] at h; exact h.elim
       | some p => rw [hw] at h; exact ⟨h.1, fun q hq H2 hag => WC (h.2.1 H2 hag) q hq, ih _ _ _ h.2.2⟩
   | some jb =>
     obtain ⟨j, b⟩ := jb
     unfold dr at h
     refine ⟨h.1, ?_⟩
     have h := h.2
     have hgv : gvO l.toArray T ⟨dst, op, ty, pos, after, some (j, b)⟩ = (gtmp l.toArray j).bind fun t => gval (T t) b := rfl
     cases hg : (gtmp l.toArray j).bind fun t => gval (T t) b with
     | none => rw [hg] at h; exact h.elim
     | some g =>
       rw [hg] at h
       simp only [Yc] at h
       cases kd with
       | m =>
         simp only [hgv, hg, Yc, putG] at h ⊢
         split
         ·exact ih _ _ _ h
         ·rename_i hne; split at h
          ·exact (hne _ rfl).elim
          ·exact h
       | q =>
         simp only [hgv, hg, Yc, putG] at h ⊢
         cases hq : opQ P z H g T op with
         | none => rw [hq] at h; exact ⟨h.1, ih _ _ _ h.2⟩
         | some p => rw [hq] at h; exact ⟨h.1, ih _ _ _ h.2⟩
       | c =>
         simp only [hgv, hg, Yc, putG] at h ⊢
         split
         ·rename_i fo args ts; obtain ⟨r, h1, h2⟩ := h; exact ⟨r, h1, ih _ _ _ h2⟩
         ·rename_i hne; split at h
          ·rename_i fo args ts; exact (hne _ _ _ rfl).elim
          ·exact h
       | w inc => exact h.elim
       | a key inc => exact h.elim
theorem VY {P : Program} {N id : Nat} {l : List Oper} {y : Code} {T : Nat → AV} {H : Heap} {n : Nat} {Q : AEx → (Nat → AV) → Heap → Nat → Prop} (hm : P.follows .mixedOrders = true) (z : TypeId → AV) (live : List Nat) (ks : List DK) (ord ps : List Nat)
   (hc : VS l N ks ord ps = true) (hpan : ∀ p T T' H n, Q (.pan p) T H n → Q (.pan p) T' H n)
   (h : ∀ K : (Nat → AV) → Heap → Nat → Prop, (∀ T H n, awp P N y T H n Q → K T H n) → dr P z N l (opkL l ks ord) T H n (Yw (fun T' H' n' => K (tsel live T') H' n') Q)) :
   awp P N (.seq (.region id l.toArray true) y) T H n Q :=
 awp_drawP hm z live ks ord ps hc hpan fun K Y => by
   have hcc := Vo (ops := l.toArray) (N := N) (ks := ks) (ord := ord) (ps := ps) (by simpa using hc)
   exact Md (by simpa using hcc.len) ord T H n (fun i hi => by simpa using (hcc.mem i).1 hi) (by simpa using h K Y)
theorem Qj {P : Program} {N id : Nat} {l : List Oper} {T : Nat → AV} {H : Heap} {n : Nat} {Q : AEx → (Nat → AV) → Heap → Nat → Prop} (hm : P.follows .mixedOrders = true) (z : TypeId → AV) (live : List Nat) (ks : List DK) (ord ps : List Nat)
   (hc : VS l N ks ord ps = true) (hpan : ∀ p T T' H n, Q (.pan p) T H n → Q (.pan p) T' H n)
   (h : ∀ K : (Nat → AV) → Heap → Nat → Prop, (∀ T H n, Q .normal T H n → K T H n) → dr P z N l (opkL l ks ord) T H n (Yw (fun T' H' n' => K (tsel live T') H' n') Q)) :
   awp P N (.region id l.toArray true) T H n Q :=
 Qi live <| awp_drawP0 hm z ks ord ps hc (fun p T T' H n hq => hpan p T T' H n hq) (by
   have hcc := Vo (ops := l.toArray) (N := N) (ks := ks) (ord := ord) (ps := ps) (by simpa using hc)
   exact Md (by simpa using hcc.len) ord T H n (fun i hi => by simpa using (hcc.mem i).1 hi) (by simpa using h (fun T' H' n' => Q .normal T' H' n') (fun _ _ _ h => h)))
attribute [go_sem] opkL.eq_1 opkL.eq_2 opk1.eq_1 dkAt.eq_1 dkAt.eq_2 dkAt.eq_3
theorem Qo.at {H H2 : Heap} (h : Qo H H2) (k : Nat) (hk : ∀ e, H k ≠ some (.arr 0 e [])) : H2 k = H k := (h k).resolve_left fun ⟨e, he⟩ => hk e he
theorem AdpL.relT {n : Nat} {c : Ctx} (hl : c.ρ n 0 = some .nil) : ∀ {l m : List AV} {cs : List Value}, AdpL n l m → RelT c l cs → RelT c m cs
 | [], [], _, _, h => h
 | a :: l, b :: m, cs, hw, h => by
   simp only [RelT] at h ⊢
   obtain ⟨v, r, e, h1, h2⟩ := h
   exact ⟨v, r, e, hw.1.2 c false _ hl h1, AdpL.relT hl hw.2 h2⟩
 | [], _ :: _, _, hw, _ => hw.elim
 | _ :: _, [], _, hw, _ => hw.elim
theorem Adp.tup {n : Nat} {l m : List AV} (h : AdpL n l m) : Adp n (.tup l) (.tup m) := by
 refine ⟨rfl, fun c m' cs hl hr => ?_⟩
 cases m' with
 | true => simp only [Rel] at hr
 | false =>
   simp only [Rel] at hr ⊢
   obtain ⟨arr, e, h1⟩ := hr
   exact ⟨arr, e, h.relT hl h1⟩
theorem Zx.adopt {P : Program} {f : FuncId} {args : List AV} {H : Heap} {n : Nat} {K K' : ARes → Heap → Nat → Prop} (h : Zx P f args H n K)
   (Y : ∀ res H1 n1, K res H1 n1 → K' res H1 n1 ∨ ∃ r r' esz, res = .val r ∧ Adp n1 r r' ∧ K' (.val r') (H1.put n1 (some (.arr 0 esz []))) (n1 + 1)) : Zx P f args H n K' := by
 intro c w vs hs hr
 refine (h c w vs hs hr).mono ?_
 rintro e w' ⟨res, c', H', n', hk, hst, hm⟩
 rcases Y _ _ _ hk with h1 | ⟨r, r', esz, rfl, ha, h1⟩
 ·exact ⟨res, c', H', n', h1, hst, hm⟩
 ·have hn := MU hst.sim esz
  refine ⟨.val r', _, _, _, h1, hst.trans hn, ?_⟩
  cases e with
  | returned v => exact ha.2 _ false _ MH (Rel.mono hn.le _ _ _ hm)
  | _ => exact hm.elim
end Go.Sx
namespace Go.Rt
open Go Go.Sx
theorem YE : ∀ (b : List UInt8) (n : Nat), MK n (b.map Zn)
 | [], _ => trivial
 | _ :: b, n => ⟨trivial, YE b n⟩
theorem YA {H : Heap} {n : Nat} : ∀ (l : List AV), MK n l → FrzL H n l l
 | [], _ => .nil
 | _ :: l, h => .cons (.kl h.1) (YA l h.2)
structure Lp where
 k : Nat
 ver : Nat
 els : List AV
instance : Inhabited Lp := ⟨⟨0, 0, []⟩⟩
structure Lp.here (H : Heap) (p : Lp) (b : List UInt8) : Prop where
 at' : H p.k = some (.arr p.ver 1 p.els)
 len : b.length ≤ p.els.length
 tk : p.els.take b.length = b.map Zn
structure Lp.ok (H : Heap) (n : Nat) (p : Lp) (b : List UInt8) : Prop extends Lp.here H p b where
 lt : p.k < n
theorem Lp.here.mono {H H' : Heap} {p : Lp} {b : List UInt8} (h : p.here H b) (hH : H' p.k = H p.k) : p.here H' b := ⟨hH.trans h.at', h.len, h.tk⟩
def Lp.av (p : Lp) (len : Nat) : AV := .osl p.k p.ver 0 len
attribute [go_sem] Lp.av
theorem Lp.ok.mono {H H' : Heap} {n n' : Nat} {p : Lp} {b : List UInt8} (h : p.ok H n b) (hH : ∀ k, k < n → H' k = H k) (hn : n ≤ n') : p.ok H' n' b :=
 ⟨h.tohere.mono (hH _ h.lt), Nat.lt_of_lt_of_le h.lt hn⟩
structure LEnt where
 e : Ent
 r : Lp
 q : Lp
 v : Lp
instance : Inhabited LEnt := ⟨⟨default, default, default, default⟩⟩
def LM (x : LEnt) : AV := .agg [x.r.av x.e.row.length, .int .i64 x.e.fam, x.q.av x.e.qual.length, .int .i64 x.e.ts, .int .i64 x.e.seq, .int .i64 x.e.kind, x.v.av x.e.value.length]
attribute [go_sem] LM
structure LEnt.ok (H : Heap) (n : Nat) (x : LEnt) : Prop where
 r : x.r.ok H n x.e.row
 q : x.q.ok H n x.e.qual
 v : x.v.ok H n x.e.value
theorem LEnt.ok.mono {H H' : Heap} {n n' : Nat} {x : LEnt} (h : x.ok H n) (hH : ∀ k, k < n → H' k = H k) (hn : n ≤ n') : x.ok H' n' := ⟨h.r.mono hH hn, h.q.mono hH hn, h.v.mono hH hn⟩
structure LList (H : Heap) (n : Nat) (p : Lp) (l : List LEnt) : Prop where
 lt : p.k < n
 at' : H p.k = some (.arr p.ver 7 p.els)
 len : l.length ≤ p.els.length
 tk : p.els.take l.length = l.map LM
 ok : ∀ x ∈ l, x.ok H n
theorem LList.mono {H H' : Heap} {n n' : Nat} {p : Lp} {l : List LEnt} (h : LList H n p l) (hH : ∀ k, k < n → H' k = H k) (hn : n ≤ n') : LList H' n' p l :=
 ⟨Nat.lt_of_lt_of_le h.lt hn, (hH _ h.lt).trans h.at', h.len, h.tk, fun x hx => (h.ok x hx).mono hH hn⟩
theorem LList.nth {H : Heap} {n : Nat} {p : Lp} {l : List LEnt} (h : LList H n p l) {i : Nat} (hi : i < l.length) : nth p.els i = LM (l.getD i default) := by
 rw [← ZF LM l i hi, ← h.tk]
 simp [Sx.nth, List.getD, hi]
structure Lp.mine (H : Heap) (lo hi : Nat) (p : Lp) (b : List UInt8) : Prop where
 at' : H p.k = some (.arr p.ver 1 p.els)
 els : p.els = b.map Zn
 lo : lo ≤ p.k
 hi : p.k < hi
theorem Lp.mine.ok {H : Heap} {lo hi : Nat} {p : Lp} {b : List UInt8} (h : p.mine H lo hi b) : p.ok H hi b := ⟨⟨h.at', by rw [h.els]; simp, by rw [h.els, List.take_of_length_le (by simp)]⟩, h.hi⟩
theorem Lp.mine.mono {H H' : Heap} {lo hi hi' : Nat} {p : Lp} {b : List UInt8} (h : p.mine H lo hi b) (hH : ∀ k, lo ≤ k → k < hi → H' k = H k) (hh : hi ≤ hi') : p.mine H' lo hi' b := ⟨(hH _ h.lo h.hi).trans h.at', h.els, h.lo, Nat.lt_of_lt_of_le h.hi hh⟩
structure LEnt.mine (H : Heap) (lo hi : Nat) (x : LEnt) : Prop where
 r : x.r.mine H lo hi x.e.row
 q : x.q.mine H lo hi x.e.qual
 v : x.v.mine H lo hi x.e.value
 rq : x.r.k < x.q.k
 qv : x.q.k < x.v.k
theorem LEnt.mine.ok {H : Heap} {lo hi : Nat} {x : LEnt} (h : x.mine H lo hi) : x.ok H hi := ⟨h.r.ok, h.q.ok, h.v.ok⟩
theorem LEnt.mine.mono {H H' : Heap} {lo hi hi' : Nat} {x : LEnt} (h : x.mine H lo hi) (hH : ∀ k, lo ≤ k → k < hi → H' k = H k) (hh : hi ≤ hi') : x.mine H' lo hi' := ⟨h.r.mono hH hh, h.q.mono hH hh, h.v.mono hH hh, h.rq, h.qv⟩
def LEnt.ks (x : LEnt) : List Nat := [x.r.k, x.q.k, x.v.k]
structure JL (H : Heap) (lo hi : Nat) (xs : List LEnt) : Prop where
 all : ∀ x ∈ xs, x.mine H lo hi
 nd : (xs.flatMap LEnt.ks).Nodup
theorem JL.nil (H : Heap) (lo hi : Nat) : JL H lo hi [] := ⟨fun _ h => by (cases h), .nil⟩
theorem JL.mono {H H' : Heap} {lo hi hi' : Nat} {xs : List LEnt} (h : JL H lo hi xs) (hH : ∀ k, lo ≤ k → k < hi → H' k = H k) (hh : hi ≤ hi') : JL H' lo hi' xs := ⟨fun x hx => (h.all x hx).mono hH hh, h.nd⟩
theorem JL.ok {H : Heap} {lo hi : Nat} {xs : List LEnt} (h : JL H lo hi xs) : ∀ x ∈ xs, x.ok H hi := fun x hx => (h.all x hx).ok
structure LEnt.there (H : Heap) (k : Nat) (x : LEnt) : Prop where
 r : x.r.here H x.e.row
 q : x.q.here H x.e.qual
 v : x.v.here H x.e.value
 ne : k ∉ x.ks
theorem LEnt.there.mono {H H' : Heap} {k : Nat} {x : LEnt} (h : x.there H k) (hj : ∀ j, j ≠ k → H' j = H j) : x.there H' k := by
 have h1 := h.ne
 simp only [LEnt.ks, List.mem_cons, List.not_mem_nil, or_false, not_or] at h1
 exact ⟨h.r.mono (hj _ (Ne.symm h1.1)), h.q.mono (hj _ (Ne.symm h1.2.1)), h.v.mono (hj _ (Ne.symm h1.2.2)), h.ne⟩
structure OwnA (H : Heap) (lo hi : Nat) (ko ver : Nat) (xs : List LEnt) : Prop where
 at' : H ko = some (.arr ver 7 (xs.map LM))
 ge : lo ≤ ko
 lt : ko < hi
 mine : JL H lo hi xs
 ne : ko ∉ xs.flatMap LEnt.ks
theorem OwnA.mono {H H' : Heap} {lo hi hi' ko ver : Nat} {xs : List LEnt} (h : OwnA H lo hi ko ver xs) (hH : ∀ k, lo ≤ k → k < hi → H' k = H k) (hh : hi ≤ hi') : OwnA H' lo hi' ko ver xs :=
 ⟨(hH _ h.ge h.lt).trans h.at', h.ge, Nat.lt_of_lt_of_le h.lt hh, h.mine.mono hH hh, h.ne⟩
def AnsU (H : Heap) (lo hi : Nat) (a : AV) (es : List Ent) : Prop := (a = .nilsl ∧ es = []) ∨ ∃ ko ver xs, a = .osl ko ver 0 xs.length ∧ xs.map (·.e) = es ∧ OwnA H lo hi ko ver xs
theorem AnsU.nil (H : Heap) (lo hi : Nat) : AnsU H lo hi .nilsl [] := .inl ⟨rfl, rfl⟩
theorem AnsU.strip {H : Heap} {lo hi : Nat} {a : AV} {es : List Ent} (h : AnsU H lo hi a es) : Sx.strip true a = a := by
 rcases h with ⟨rfl, _⟩ | ⟨_, _, _, rfl, _⟩ <;> rfl
def AnsK (n : Nat) (H : Heap) (es : List Ent) (err : Int) (res : ARes) (H' : Heap) (n' : Nat) : Prop := ∃ a, res = .val (.tup [a, .int .i64 err]) ∧ AnsU H' n n' a es ∧ n ≤ n' ∧ ∀ k, k < n → H' k = H k
def AnsO (n : Nat) (H : Heap) (es : List Ent) (err : Int) (res : ARes) (H' : Heap) (n' : Nat) : Prop := ∃ ko ver xs, res = .val (.tup [.osl ko ver 0 xs.length, .int .i64 err]) ∧ xs.map (·.e) = es ∧ OwnA H' n n' ko ver xs ∧ n ≤ n' ∧ ∀ k, k < n → H' k = H k
theorem AnsK.own {P : Program} {f : FuncId} {args : List AV} {H : Heap} {n : Nat} {es : List Ent} {err : Int} (h : Zx P f args H n (AnsK n H es err)) : Zx P f args H n (AnsO n H es err) := by
 refine h.adopt fun res H1 n1 ⟨a, hr, ha, hn, hlow⟩ => ?_
 rcases ha with ⟨rfl, rfl⟩ | ⟨ko, ver, xs, rfl, h1, h2⟩
 ·exact .inr ⟨_, _, 7, hr, Adp.tup (m := [.osl n1 0 0 0, .int .i64 err]) ⟨Adp.nilsl _, Adp.refl _ _, trivial⟩, n1, 0, [], rfl, rfl, ⟨MG _ _ _, hn, by omega, JL.nil _ _ _, by simp⟩, by omega, fun k hk => (ME _ _ (by omega)).trans (hlow k hk)⟩
 ·exact .inl ⟨ko, ver, xs, hr, h1, h2, hn, hlow⟩
theorem WX {v : Nat} (h : v < 128) : Zm v = [UInt8.ofNat v] := by rw [Zm]; simp [h]
theorem UM {v : Nat} (h : 128 ≤ v) : Zm v = UInt8.ofNat (v % 128 + 128) :: Zm (v / 128) := by rw [Zm]; simp [Nat.not_lt.2 h]
theorem uintB_len : ∀ (k v : Nat), v < 128 ^ (k + 1) → (Zm v).length ≤ k + 1
 | 0, v, h => by rw [WX (by simpa using h)]; simp
 | k + 1, v, h => by
   by_cases hv : v < 128
   ·rw [WX hv]; simp
   ·rw [UM (by omega), List.length_cons]
    have := uintB_len k (v / 128) (by
      rw [Nat.div_lt_iff_lt_mul (by omega)]
      simpa [Nat.pow_succ] using h)
    omega
theorem ZL {v : Nat} (h : v < 18446744073709551616) : (Zm v).length ≤ 10 := uintB_len 9 v (by omega)
theorem Qq (v : Nat) : 1 ≤ (Zm v).length := by
 by_cases hv : v < 128
 ·rw [WX hv]; simp
 ·rw [UM (by omega)]; simp
theorem Xg (n : Int) : u64 n < 18446744073709551616 := by unfold u64; omega
theorem XD (n : Nat) (h : n < 18446744073709551616) : u64 n = n := by unfold u64; omega
theorem YK (n : Int) : IntKind.u64.wrap n = (u64 n : Int) := by rw [IntKind.wrap_u64]; unfold u64; omega
theorem u8_wrap (n : Int) : IntKind.u8.wrap n = ((ZW n).toNat : Int) := by
 have : IntKind.u8.wrap n = n % 256 := by simp [IntKind.wrap, IntKind.bits, IntKind.signed]
 rw [this]; unfold ZW
 simp; omega
theorem Y3 (n : Int) : AV.int .u8 (IntKind.u8.wrap n) = Zn (ZW n) := by rw [u8_wrap]; rfl
theorem Ki (v : Nat) : ZW v = UInt8.ofNat v := by
 unfold ZW
 apply UInt8.toNat_inj.1
 simp; omega
theorem or128 (v : Nat) : AV.int .u8 (intBits .or .u8 (IntKind.u8.wrap (v : Int)) 128) = Zn (UInt8.ofNat (v % 128 + 128)) := by
 have h1 : IntKind.u8.wrap (v : Int) = ((v % 256 : Nat) : Int) := by
   have : IntKind.u8.wrap (v : Int) = (v : Int) % 256 := by simp [IntKind.wrap, IntKind.bits, IntKind.signed]
   rw [this]; omega
 rw [h1]
 have key : ∀ r : Fin 256, intBits .or .u8 ((r.1 : Nat) : Int) 128 = ((UInt8.ofNat (r.1 % 128 + 128)).toNat : Int) := by decide +kernel
 have := key ⟨v % 256, Nat.mod_lt _ (by omega)⟩
 simp only at this
 rw [this]
 have e : v % 256 % 128 = v % 128 := by omega
 rw [e]; rfl
theorem shr7 (v : Nat) : (v : Int).fdiv (2 ^ (min 7 64 : Nat)) = ((v / 128 : Nat) : Int) := by
 have : (2 : Int) ^ (min 7 64 : Nat) = 128 := by decide
 rw [this, Int.fdiv_eq_ediv_of_nonneg _ (by omega)]; omega
structure WSt (H : Heap) (n kw kb M : Nat) (bs : List UInt8) : Prop where
 ex : ∃ ver, H kw = some (.arr 0 1 [.agg [.osl kb ver 0 bs.length]]) ∧ H kb = some (.arr ver 1 (bs.map Zn))
 ne : kw ≠ kb
 lw : kw < n
 lb : kb < n
 len : bs.length ≤ M
theorem WSt.mono {H H' : Heap} {n n' kw kb M : Nat} {bs : List UInt8} (h : WSt H n kw kb M bs) (hn : n ≤ n') (hw : H' kw = H kw) (hb : H' kb = H kb) : WSt H' n' kw kb M bs :=
 ⟨by obtain ⟨ver, h1, h2⟩ := h.ex; exact ⟨ver, hw.trans h1, hb.trans h2⟩, h.ne, Nat.lt_of_lt_of_le h.lw hn, Nat.lt_of_lt_of_le h.lb hn, h.len⟩
theorem WSt.up {H : Heap} {n kw kb M M' : Nat} {bs : List UInt8} (h : WSt H n kw kb M bs) (hM : M ≤ M') : WSt H n kw kb M' bs := ⟨h.ex, h.ne, h.lw, h.lb, Nat.le_trans h.len hM⟩
def WK (H : Heap) (n kw kb M : Nat) (bs : List UInt8) (res : ARes) (H' : Heap) (n' : Nat) : Prop := res = .val (.tup []) ∧ n ≤ n' ∧ WSt H' n' kw kb M bs ∧ ∀ k, k < n → k ≠ kw → k ≠ kb → H' k = H k
theorem WK.up {H H1 H' : Heap} {n n1 n' kw kb M : Nat} {bs : List UInt8} {res : ARes} (h : WK H1 n1 kw kb M bs res H' n') (hn : n ≤ n1) (hl : ∀ k, k < n → k ≠ kw → k ≠ kb → H1 k = H k) : WK H n kw kb M bs res H' n' :=
 ⟨h.1, Nat.le_trans hn h.2.1, h.2.2.1, fun k hk h1 h2 => (h.2.2.2 k (by omega) h1 h2).trans (hl k hk h1 h2)⟩
def iv8 : AV → Nat
 | .int _ i => (i + 8).toNat
 | _ => 0
theorem Ma (n : Int) {j : Nat} (h : j < 8) : (XO n).take j ++ [ZW (n / 2 ^ (56 - 8 * j))] = (XO n).take (j + 1) := by
 rcases j with _ | _ | _ | _ | _ | _ | _ | _ | j <;> first | rfl | omega
theorem WM (n : Int) : (XO n).length = 8 := rfl
theorem fdiv_pow (n : Int) (k : Nat) : n.fdiv (2 ^ k) = n / 2 ^ k := Int.fdiv_eq_ediv_of_nonneg _ (Int.le_of_lt (Int.pow_pos (by omega)))
structure CmdE.fits (c : CmdE) : Prop where
 row : c.row.length ≤ 1048576
 conds : c.conds.length ≤ 1048576
 cond : ∀ x ∈ c.conds, x.qual.length ≤ 1048576 ∧ x.value.length ≤ 1048576
 ops : c.ops.length ≤ 1048576
 op : ∀ x ∈ c.ops, x.qual.length ≤ 1048576 ∧ x.value.length ≤ 1048576
 frm : c.q.frm.length ≤ 1048576
 to : c.q.to.length ≤ 1048576
 fams : c.q.fams.length ≤ 1048576
 pre : c.q.pre.length ≤ 1048576
 whr : c.q.whr.length ≤ 1048576
 token : c.q.token.length ≤ 1048576
structure WS (H0 : Heap) (n0 : Nat) (B : List (Nat × AObj)) (kw kb M : Nat) (bs : List UInt8) (H' : Heap) (n' : Nat) : Prop where
 w : WSt H' n' kw kb M bs
 keep : ∀ p ∈ B, H' p.1 = some p.2 ∧ p.1 ≠ kw ∧ p.1 ≠ kb ∧ p.1 < n'
 low : ∀ k, k < n0 → H' k = H0 k
 gw : n0 ≤ kw
 gb : n0 ≤ kb
theorem WS.call {H0 : Heap} {n0 : Nat} {B : List (Nat × AObj)} {kw kb M M' : Nat} {bs bs' : List UInt8} {H1 H2 : Heap} {n1 n2 : Nat} {res : ARes} (h : WS H0 n0 B kw kb M bs H1 n1) (hk : WK H1 n1 kw kb M' bs' res H2 n2) : WS H0 n0 B kw kb M' bs' H2 n2 where
 w := hk.2.2.1
 keep := fun p hp => by
   obtain ⟨h1, h2, h3, h4⟩ := h.keep p hp
   exact ⟨(hk.2.2.2 _ h4 h2 h3).trans h1, h2, h3, Nat.lt_of_lt_of_le h4 hk.2.1⟩
 low := fun k hk2 => (hk.2.2.2 k (by have := h.w.lw; have := h.gw; omega) (by have := h.gw; omega) (by have := h.gb; omega)).trans (h.low k hk2)
 gw := h.gw
 gb := h.gb
theorem WS.on {H0 : Heap} {n0 : Nat} {B : List (Nat × AObj)} {kw kb M : Nat} {bs : List UInt8} {H1 H2 : Heap} {n1 n2 : Nat} (h : WS H0 n0 B kw kb M bs H1 n1) (hl : ∀ k, k < n1 → H2 k = H1 k) (hn : n1 ≤ n2) : WS H0 n0 B kw kb M bs H2 n2 where
 w := h.w.mono hn (hl _ h.w.lw) (hl _ h.w.lb)
 keep := fun p hp => by
   obtain ⟨h1, h2, h3, h4⟩ := h.keep p hp
   exact ⟨(hl _ h4).trans h1, h2, h3, Nat.lt_of_lt_of_le h4 hn⟩
 low := fun k hk => (hl k (by have := h.w.lw; have := h.gw; omega)).trans (h.low k hk)
 gw := h.gw
 gb := h.gb
theorem WS.add {H0 : Heap} {n0 : Nat} {B : List (Nat × AObj)} {kw kb M : Nat} {bs : List UInt8} {H1 : Heap} {n1 : Nat} (h : WS H0 n0 B kw kb M bs H1 n1) {k : Nat} {o : AObj} (hk : H1 k = some o) (h1 : k ≠ kw) (h2 : k ≠ kb) (h3 : k < n1) : WS H0 n0 ((k, o) :: B) kw kb M bs H1 n1 :=
 ⟨h.w, fun p hp => by
     rcases List.mem_cons.1 hp with rfl | hp
     ·exact ⟨hk, h1, h2, h3⟩
     ·exact h.keep p hp, h.low, h.gw, h.gb⟩
theorem WS.drop {H0 : Heap} {n0 : Nat} {B : List (Nat × AObj)} {kw kb M : Nat} {bs : List UInt8} {H1 : Heap} {n1 : Nat} {p : Nat × AObj} (h : WS H0 n0 (p :: B) kw kb M bs H1 n1) : WS H0 n0 B kw kb M bs H1 n1 :=
 { h with keep := fun q hq => h.keep q (List.mem_cons_of_mem _ hq) }
theorem WS.get {H0 : Heap} {n0 : Nat} {B : List (Nat × AObj)} {kw kb M : Nat} {bs : List UInt8} {H1 : Heap} {n1 : Nat} (h : WS H0 n0 B kw kb M bs H1 n1) (k : Nat) (o : AObj) (hm : (k, o) ∈ B) : H1 k = some o := (h.keep (k, o) hm).1
theorem WS.up {H0 : Heap} {n0 : Nat} {B : List (Nat × AObj)} {kw kb M M' : Nat} {bs : List UInt8} {H1 : Heap} {n1 : Nat} (h : WS H0 n0 B kw kb M bs H1 n1) (hM : M ≤ M') : WS H0 n0 B kw kb M' bs H1 n1 := { h with w := h.w.up hM }
theorem WS.eq {H0 : Heap} {n0 : Nat} {B : List (Nat × AObj)} {kw kb M : Nat} {bs bs' : List UInt8} {H1 : Heap} {n1 : Nat} (h : WS H0 n0 B kw kb M bs H1 n1) (e : bs = bs') : WS H0 n0 B kw kb M bs' H1 n1 := e ▸ h
theorem WS.out {H0 : Heap} {n0 : Nat} {B : List (Nat × AObj)} {kw kb M : Nat} {bs : List UInt8} {H1 : Heap} {n1 : Nat} (h : WS H0 n0 B kw kb M bs H1 n1) : ∃ ver, H1 kw = some (.arr 0 1 [.agg [.osl kb ver 0 bs.length]]) ∧ H1 kb = some (.arr ver 1 (bs.map Zn)) := h.w.ex
theorem Xd {α : Type} [Inhabited α] (f : α → List UInt8) (l : List α) {i : Nat} (h : i < l.length) : (l.take (i + 1)).flatMap f = (l.take i).flatMap f ++ f (l.getD i default) := by
 rw [List.take_succ_eq_append_getElem h, List.flatMap_append]
 simp [List.getD, List.getElem?_eq_getElem h]
theorem Xp {α : Type} (f : α → List UInt8) (l : List α) {i : Nat} (h : l.length ≤ i) : (l.take i).flatMap f = l.flatMap f := by rw [List.take_of_length_le h]
theorem X8 {α : Type} [Inhabited α] (l : List α) {i : Nat} (h : i < l.length) : l.getD i default ∈ l := by
 rw [List.getD, List.getElem?_eq_getElem h]; exact List.getElem_mem _
def ZQ (k : Int) : Bool := k == 3
def YQ (k : Int) : Bool := decide (4 ≤ k)
def kOps (k : Int) : Bool := k == 4
def Yn (k : Int) : Int := if k = 5 then 1 else if k = 6 then 0 else if k = 0 then 0 else -1
def Yd (k : Int) : Bool := k == 7
def Zo (k : Int) : AV := .agg [.bool (ZQ k), .bool (YQ k), .bool (kOps k), .int .i64 (Yn k), .bool (Yd k)]
def XX : List AV := (List.range 8).map fun (i : Nat) => Zo i
theorem QY {k : Int} (h0 : 0 ≤ k) (h8 : k < 8) : nth XX k.toNat = Zo k := by
 obtain ⟨i, rfl⟩ : ∃ i : Nat, k = i := ⟨k.toNat, by omega⟩
 rw [Int.toNat_natCast]
 have hi : i < 8 := by omega
 simp [nth, XX, List.getD, hi]
def UN : List Int := [0, 274646895, 549293790, 820201905, 1098587580, 1361435347, 1640403810, 1905808397, 2197175160, 2460548119, 2722870694, 2987750089, 3280807620, 3553878443, 3811616794, 4084100981]
def Vx : List AV := UN.map fun n => .int .u32 n
structure GOK (gk gt : Nat) (H : Heap) (n : Nat) : Prop where
 kinds : H gk = some (.glob 5 XX)
 table : H gt = some (.glob 1 Vx)
 gek : gk < n
 get : gt < n
theorem GOK.on {gk gt : Nat} {H H' : Heap} {n n' : Nat} (h : GOK gk gt H n) (hl : ∀ k, k < n → H' k = H k) (hn : n ≤ n') : GOK gk gt H' n' :=
 ⟨(hl gk h.gek).trans h.kinds, (hl gt h.get).trans h.table, Nat.lt_of_lt_of_le h.gek hn, Nat.lt_of_lt_of_le h.get hn⟩
end Go.Rt
namespace Go.Proofs.YtifnhpmeoogedaaGreatDoor
open Go Go.Sx Go.Rt Go.Proofs Go.ChangeShapes Go.WideShapes Go.ChangeAt Go.RowKit Tryz
def tabs : List (String × DataW Unit) := [("strata/wire.table", Rows.laid_strata_wire_table), ("strata/order.kinds", Rows.laid_strata_order_kinds)]
def LU (k : Int) : List Value := [.bool (ZQ k), .bool (YQ k), .bool (kOps k), .int .i64 (Yn k), .bool (Yd k)]
def kindD (k : Int) : DataW Unit := .agg [.lit (.bool (ZQ k)), .lit (.bool (YQ k)), .lit (.bool (kOps k)), .lit (.int .i64 (Yn k)), .lit (.bool (Yd k))]
theorem kindsD : (Rows.laid_strata_order_kinds : DataW Unit) = .agg ((List.range' 0 8).map fun (i : Nat) => kindD i) := rfl
theorem Jo {W : World} {fuel : Nat} {cs : List Value} {p : List MemPlace} {b : Bool} (h : DataW.trod (fun _ => ()) prog W 0 (fun _ => true) false fuel 4 cs = some (.lit (.bool b), p)) : cs = [.bool b] := by
 obtain ⟨b', rfl, hx⟩ := DataW.trod_bool underlying4 h
 simp at hx; rw [hx.1]
theorem one_int {W : World} {fuel : Nat} {cs : List Value} {p : List MemPlace} {n : Int} (h : DataW.trod (fun _ => ()) prog W 0 (fun _ => true) false fuel 3 cs = some (.lit (.int .i64 n), p)) : cs = [.int .i64 n] := by
 obtain ⟨n', rfl, hx, _⟩ := DataW.trod_int underlying3 h
 simp at hx; rw [hx.1]
theorem U0 {l : List Value} {i : Nat} {v : Value} (h : (l.drop i).take 1 = [v]) : l[i]? = some v := by
 have := congrArg (·[0]?) h
 simpa [List.getElem?_take, List.getElem?_drop] using this
set_option maxRecDepth 100000 in
theorem kind_cells {W : World} {fuel : Nat} {cs : List Value} {p : List MemPlace} {k : Int} (h : DataW.trod (fun _ => ()) prog W 0 (fun _ => true) false fuel 102 cs = some (kindD k, p)) : cs = LU k := by
 obtain ⟨ys, n, rfl, hx, hl, hyl, hy⟩ := DataW.trod_struct underlying102 h
 have hys : ys.map (·.1) = [.lit (.bool (ZQ k)), .lit (.bool (YQ k)), .lit (.bool (kOps k)), .lit (.int .i64 (Yn k)), .lit (.bool (Yd k))] := by
   have := congrArg Prod.fst hx
   simp only [kindD, DataW.agg.injEq] at this
   exact this.symm
 have hcl : cs.length = 5 := hl.trans (by kernel_rfl)
 have get : ∀ i, i < 5 → ∃ q, ys[i]? = some ((ys.map (·.1)).getD i .nil, q) := fun i hi => by
   have : i < ys.length := by have := congrArg List.length hys; simp at this; omega
   exact ⟨(ys[i]).2, by simp [List.getD, this]⟩
 have c0 : (cs.drop 0).take 1 = [.bool (ZQ k)] := by
   obtain ⟨q, hq⟩ := get 0 (by omega)
   have := hy 0 _ rfl
   rw [hq, hys] at this
   exact Jo this
 have c1 : (cs.drop 1).take 1 = [.bool (YQ k)] := by
   obtain ⟨q, hq⟩ := get 1 (by omega)
   have := hy 1 _ rfl
   rw [hq, hys] at this
   exact Jo this
 have c2 : (cs.drop 2).take 1 = [.bool (kOps k)] := by
   obtain ⟨q, hq⟩ := get 2 (by omega)
   have := hy 2 _ rfl
   rw [hq, hys] at this
   exact Jo this
 have c3 : (cs.drop 3).take 1 = [.int .i64 (Yn k)] := by
   obtain ⟨q, hq⟩ := get 3 (by omega)
   have := hy 3 _ rfl
   rw [hq, hys] at this
   exact one_int this
 have c4 : (cs.drop 4).take 1 = [.bool (Yd k)] := by
   obtain ⟨q, hq⟩ := get 4 (by omega)
   have := hy 4 _ rfl
   rw [hq, hys] at this
   exact Jo this
 apply List.ext_getElem?
 intro i
 match i with
 | 0 => exact U0 c0
 | 1 => exact U0 c1
 | 2 => exact U0 c2
 | 3 => exact U0 c3
 | 4 => exact U0 c4
 | i + 5 => rw [List.getElem?_eq_none (by omega), List.getElem?_eq_none (by simp [LU])]
theorem var_cells {W : World} {nm : String} {g : Nat} {cs : Array Value} (hg : (prog).globalNamed nm = some g) (h : W.var? prog nm = some cs) : ∃ ty fr, W.heap[g]? = some (.cells cs ty fr) := by
 unfold World.var? at h
 rw [hg] at h
 simp only [Option.bind_some] at h
 split at h
 ·rename_i c ty fr hb; simp only [Option.some.injEq] at h; subst h; exact ⟨ty, fr, hb⟩
 ·simp at h
theorem tables {W : World} (h : laidMetH prog tabs W) : ∃ (aT aK : Array Value) (tT tK : TypeId) (fT fK : Nat × Nat), W.heap[2]? = some (.cells aT tT fT) ∧ W.heap[0]? = some (.cells aK tK fK) ∧
   At aT 0 (UN.map fun n => .int .u32 n) ∧ At aK 0 ((List.range' 0 8).flatMap fun (i : Nat) => LU i) := by
 have h : laidMet prog tabs W := h
 obtain ⟨ps, ⟨g, t, cs, fuel, p, q, hg, ht, hv, hd, ⟨g2, t2, cs2, fuel2, p2, q2, hg2, ht2, hv2, hd2, _, _⟩, _⟩, _⟩ := h
 have e1 : (prog).globalNamed "strata/wire.table" = some 2 := by kernel_rfl
 have e2 : (prog).globalNamed "strata/order.kinds" = some 0 := by kernel_rfl
 have e3 : ((prog).globals[2]?).map (·.type) = some 232 := by kernel_rfl
 have e4 : ((prog).globals[0]?).map (·.type) = some 103 := by kernel_rfl
 obtain rfl := Option.some.inj (hg.symm.trans e1)
 obtain rfl := Option.some.inj (hg2.symm.trans e2)
 obtain rfl := Option.some.inj (ht.symm.trans e3)
 obtain rfl := Option.some.inj (ht2.symm.trans e4)
 obtain ⟨tT, fT, hT⟩ := var_cells e1 hv
 obtain ⟨tK, fK, Y⟩ := var_cells e2 hv2
 refine ⟨cs, cs2, tT, tK, fT, fK, hT, Y, ?_, ?_⟩
 ·have hc : cs.toList = UN.map fun z => Value.int .u32 z := Lib.cells_of_tab (zs := UN) underlying232 underlying217 (by kernel_rfl) (by kernel_rfl) hd
  exact At.self hc
 ·obtain ⟨xs, m, rfl, hx, hl, hxl, hy⟩ := DataW.trod_array underlying103 hd2
  have hxs : xs.map (·.1) = (List.range' 0 8).map fun (i : Nat) => kindD i := by
    have := congrArg Prod.fst hx
    rw [kindsD] at this
    simp only [DataW.agg.injEq] at this
    exact this.symm
  have h5 : (prog).cellsOf 102 = 5 := by kernel_rfl
  have hk : ∀ i, i < 8 → (cs2.toList.drop (i * 5)).take 5 = LU i := fun i hi => by
    have h1 := hy i hi
    rw [h5] at h1
    have h2 : xs[i]? = some (kindD i, ((xs[i]?).getD (.nil, [])).2) := by
      have hlt : i < xs.length := by omega
      have : (xs.map (·.1))[i]? = some (kindD i) := by rw [hxs]; simp [List.getElem?_map, List.getElem?_range', hi]
      simp only [List.getElem?_map, List.getElem?_eq_getElem hlt, Option.map_some, Option.some.injEq] at this
      simp [List.getElem?_eq_getElem hlt, ← this]
    rw [h2] at h1
    exact kind_cells h1
  have := at_flat (arr := cs2) (off := 0) (esz := 5) (fun (i : Nat) => LU i) 8 0 fun i _ hi => ⟨rfl, fun j v hj => by
    have hk := hk i (by omega)
    have hjl : j < 5 := by
      rcases Nat.lt_or_ge j 5 with h | h
      ·exact h
      ·rw [List.getElem?_eq_none (by show 5 ≤ j; exact h)] at hj; simp at hj
    rw [← hk, List.getElem?_take_of_lt hjl, List.getElem?_drop] at hj
    rw [Nat.zero_add]
    simpa using hj⟩
  simpa using this
def cG (W : World) : Ctx := ⟨fun k v => if (k = 0 ∨ k = 2) ∧ v = 0 then some .nil else none, (c0 W).ro⟩
def HG : Heap := fun k => if k = 0 then some (.glob 5 XX) else if k = 2 then some (.glob 1 Vx) else none
theorem cG_le (W : World) : (c0 W).le (cG W) := ⟨fun h => by simp [c0] at h, fun h => h⟩
theorem gokG : GOK 0 2 HG 3 := ⟨rfl, rfl, by decide, by decide⟩
theorem simG {W : World} (h : laidMetH prog tabs W) : Sim (cG W) HG 3 W where
 ro := (sim0 W).ro
 own := fun k o hk => by
   obtain ⟨aT, aK, tT, tK, fT, fK, hT, Y, aT', aK'⟩ := tables h
   unfold HG at hk
   split at hk
   ·rename_i e; subst e; cases hk
    refine ⟨by simp [cG], fun x hx => ?_, aK, _, by simp [cG, c0, Y], ?_, aK'⟩
    ·obtain ⟨i, _, rfl⟩ := List.mem_map.1 hx; rfl
    ·exact JV (fun (i : Nat) => Zo i) (fun (i : Nat) => LU i) (List.range' 0 8) fun i _ => by
       simp only [Zo, Rel, RelF, LU]
       exact ⟨[_], _, rfl, rfl, [_], _, rfl, rfl, [_], _, rfl, rfl, [_], _, rfl, rfl, [_], _, rfl, rfl, rfl⟩
   ·split at hk
    ·rename_i e; subst e; cases hk
     refine ⟨by simp [cG], fun x hx => ?_, aT, _, by simp [cG, c0, hT], ?_, aT'⟩
     ·obtain ⟨i, _, rfl⟩ := List.mem_map.1 hx; rfl
     ·unfold Vx
      generalize UN = l
      induction l with
      | nil => simp [RelF]
      | cons n l ih => simp only [List.map_cons, RelF]; exact ⟨[_], _, rfl, rfl, ih⟩
    ·simp at hk
 sep := fun k o b hk hb => by
   unfold HG at hk
   split at hk
   ·rename_i e; subst e; cases hk; simp [Zw, AObj.ver, cG] at hb
   ·split at hk
    ·rename_i e; subst e; cases hk; simp [Zw, AObj.ver, cG] at hb
    ·simp at hk
 inj := fun k k' o o' b hk hk' hb _ => by
   unfold HG at hk
   split at hk
   ·rename_i e; subst e; cases hk; simp [Zw, AObj.ver, cG] at hb
   ·split at hk
    ·rename_i e; subst e; cases hk; simp [Zw, AObj.ver, cG] at hb
    ·simp at hk
 fresh := fun k hk => ⟨by unfold HG; rw [if_neg (by omega), if_neg (by omega)], fun v => by simp only [cG]; rw [if_neg (by omega)]⟩
 vers := fun k o v hk hv => by
   have : ¬ v = 0 := by omega
   simp [cG, this]
theorem retG {f : FuncId} {args : List AV} {W : World} {vs : List Value} (hw : laidMetH prog tabs W) (h : Ret prog f args HG 3 (.bool true) HG 3) (hr : RelT (c0 W) args vs) :
   Calls prog f vs.toArray W fun e w' => e = .returned (.bool true) ∧ RowKit.Below W.heap.size W w' :=
 (h (cG W) W vs (simG hw) (RelT.mono (cG_le W) _ _ hr)).mono fun e w' ⟨res, c', H', n', ⟨hres, _, _⟩, hst, hm⟩ => by
   subst hres
   refine ⟨?_, ?_⟩
   ·cases e with
    | returned v => simp only [Rel, List.cons.injEq, and_true] at hm; rw [hm]
    | panicked _ => exact hm.elim
    | outgrown => exact hm.elim
   ·have hf := hst.fr
    exact ⟨hf.os, hf.tape, hf.output, hf.size, fun k hk => hf.keep k hk fun ⟨j, o, h1, hb⟩ => by
      unfold HG at h1
      split at h1
      ·rename_i e; subst e; cases h1; simp [Zw, AObj.ver, cG] at hb
      ·split at h1
       ·rename_i e; subst e; cases h1; simp [Zw, AObj.ver, cG] at hb
       ·simp at h1⟩
def putCells (cs : Array Value) : Obj → Obj
 | .cells _ t fr => .cells cs t fr
 | o => o
noncomputable def J5 (os : Os) : World :=
 { World.holding prog os ⟨#[], #[], []⟩ with heap := ((World.holding prog os ⟨#[], #[], []⟩).heap.modify 2 (putCells #[.int .u32 0, .int .u32 274646895, .int .u32 549293790, .int .u32 820201905, .int .u32 1098587580, .int .u32 1361435347, .int .u32 1640403810, .int .u32 1905808397, .int .u32 2197175160, .int .u32 2460548119, .int .u32 2722870694, .int .u32 2987750089, .int .u32 3280807620, .int .u32 3553878443, .int .u32 3811616794, .int .u32 4084100981])).modify 0 (putCells #[.bool false, .bool false, .bool false, .int .i64 0, .bool false, .bool false, .bool false, .bool false, .int .i64 (-1), .bool false, .bool false, .bool false, .bool false, .int .i64 (-1), .bool false, .bool true, .bool false, .bool false, .int .i64 (-1), .bool false, .bool false, .bool true, .bool true, .int .i64 (-1), .bool false, .bool false, .bool true, .bool false, .int .i64 1, .bool false, .bool false, .bool true, .bool false, .int .i64 0, .bool false, .bool false, .bool true, .bool false, .int .i64 (-1), .bool true]) }
end Go.Proofs.YtifnhpmeoogedaaGreatDoor
namespace Go.Proofs.YtifnhpmeoogedaaGreatDoor
open Go Go.Sx Go.Proofs Tryz
def zs : TypeId → AV
 | 3 => .int .i64 0
 | 4 => .bool false
 | 5 => .int .u8 0
 | 9 => .str []
 | 24 => .agg [.nilsl]
 | 25 => .nilsl
 | 30 => .agg [.nilsl, .nilsl, .nilsl, .nilsl, .int .i64 0, .int .i64 0, .int .i64 0, .bool false, .str [], .nilsl]
 | 32 => .agg [.int .i64 0, .int .i64 0, .int .i64 0, .nilsl, .nilsl, .nilsl, .int .i64 0, .agg [.nilsl, .nilsl, .nilsl, .nilsl, .int .i64 0, .int .i64 0, .int .i64 0, .bool false, .str [], .nilsl]]
 | 49 => .agg [.nilsl, .nilsl]
 | 60 => .agg [.int .i64 0, .int .i64 0, .nilsl, .nilsl]
 | 62 => .agg [.int .i64 0, .int .i64 0, .nilsl, .int .i64 0, .nilsl, .int .i64 0]
 | 67 => .agg [.nilsl, .nilsl, .bool false]
 | 69 => .agg [.int .i64 0, .bool false, .int .i64 0, .agg [.nilsl, .nilsl, .bool false]]
 | 85 => .agg [.nilsl, .nilsl]
 | 87 => .agg [.int .i64 0, .nilsl, .int .i64 0, .nilsl]
 | 99 => .agg [.str [], .int .i64 0, .int .i64 0]
 | 102 => .agg [.bool false, .bool false, .bool false, .int .i64 0, .bool false]
 | 103 => .agg [.agg [.bool false, .bool false, .bool false, .int .i64 0, .bool false], .agg [.bool false, .bool false, .bool false, .int .i64 0, .bool false], .agg [.bool false, .bool false, .bool false, .int .i64 0, .bool false], .agg [.bool false, .bool false, .bool false, .int .i64 0, .bool false], .agg [.bool false, .bool false, .bool false, .int .i64 0, .bool false], .agg [.bool false, .bool false, .bool false, .int .i64 0, .bool false], .agg [.bool false, .bool false, .bool false, .int .i64 0, .bool false], .agg [.bool false, .bool false, .bool false, .int .i64 0, .bool false]]
 | 119 => .agg []
 | 138 => .agg [.nilsl, .int .i64 0, .bool false]
 | 151 => .agg [.int .i64 0, .nilsl]
 | 157 => .agg [.nilsl]
 | 162 => .agg [.str [], .nilsl, .str [], .str [], .int .i64 0]
 | 166 => .agg [.bool false, .int .i64 0, .nilsl]
 | 173 => .agg [.nilsl, .int .i64 0]
 | 190 => .nilf
 | 198 => .agg [.int .u8 0, .str [], .int .i64 0, .int .i64 0]
 | 200 => .agg [.str [], .agg [.nilsl], .agg [.int .u8 0, .str [], .int .i64 0, .int .i64 0], .int .i64 0, .int .i64 0, .int .i64 0]
 | 208 => .agg [.int .i64 0]
 | 211 => .agg [.int .i64 0, .int .i64 0, .str [], .int .i64 0, .nilsl]
 | 214 => .agg [.agg [.nilsl], .str [], .int .i64 0, .agg [.int .i64 0, .int .i64 0, .str [], .int .i64 0, .nilsl], .nilsl, .int .i64 0]
 | 228 => .agg [.str [], .str [], .str [], .str [], .str [], .str [], .str [], .str [], .str []]
 | 232 => .agg [.int .u32 0, .int .u32 0, .int .u32 0, .int .u32 0, .int .u32 0, .int .u32 0, .int .u32 0, .int .u32 0, .int .u32 0, .int .u32 0, .int .u32 0, .int .u32 0, .int .u32 0, .int .u32 0, .int .u32 0, .int .u32 0]
 | _ => .junk
def zo (t : TypeId) : AV := if t = 4294967295 then .bool true else zs t
theorem zi_3 : Z5 prog 3 (.int .i64 0) := ZP rfl (.int .i64 0) (by kernel_rfl) rfl
theorem zi_4 : Z5 prog 4 (.bool false) := ZP rfl (.bool false) (by kernel_rfl) rfl
theorem zi_5 : Z5 prog 5 (.int .u8 0) := ZP rfl (.int .u8 0) (by kernel_rfl) rfl
theorem zi_9 : Z5 prog 9 (.str []) := ZP rfl (.string ⟨#[]⟩) (by kernel_rfl) rfl
theorem zi_24 : Z5 prog 24 (.agg [.nilsl]) := ZP rfl (.agg #[.slice none 0 0]) (by kernel_rfl) rfl
theorem zi_25 : Z5 prog 25 (.nilsl) := ZP rfl (.slice none 0 0) (by kernel_rfl) rfl
theorem zi_30 : Z5 prog 30 (.agg [.nilsl, .nilsl, .nilsl, .nilsl, .int .i64 0, .int .i64 0, .int .i64 0, .bool false, .str [], .nilsl]) := ZP rfl (.agg #[.slice none 0 0, .slice none 0 0, .slice none 0 0, .slice none 0 0, .int .i64 0, .int .i64 0, .int .i64 0, .bool false, .string ⟨#[]⟩, .slice none 0 0]) (by kernel_rfl) rfl
theorem zi_32 : Z5 prog 32 (.agg [.int .i64 0, .int .i64 0, .int .i64 0, .nilsl, .nilsl, .nilsl, .int .i64 0, .agg [.nilsl, .nilsl, .nilsl, .nilsl, .int .i64 0, .int .i64 0, .int .i64 0, .bool false, .str [], .nilsl]]) := ZP rfl (.agg #[.int .i64 0, .int .i64 0, .int .i64 0, .slice none 0 0, .slice none 0 0, .slice none 0 0, .int .i64 0, .slice none 0 0, .slice none 0 0, .slice none 0 0, .slice none 0 0, .int .i64 0, .int .i64 0, .int .i64 0, .bool false, .string ⟨#[]⟩, .slice none 0 0]) (by kernel_rfl) rfl
theorem zi_49 : Z5 prog 49 (.agg [.nilsl, .nilsl]) := ZP rfl (.agg #[.slice none 0 0, .slice none 0 0]) (by kernel_rfl) rfl
theorem zi_60 : Z5 prog 60 (.agg [.int .i64 0, .int .i64 0, .nilsl, .nilsl]) := ZP rfl (.agg #[.int .i64 0, .int .i64 0, .slice none 0 0, .slice none 0 0]) (by kernel_rfl) rfl
theorem zi_62 : Z5 prog 62 (.agg [.int .i64 0, .int .i64 0, .nilsl, .int .i64 0, .nilsl, .int .i64 0]) := ZP rfl (.agg #[.int .i64 0, .int .i64 0, .slice none 0 0, .int .i64 0, .slice none 0 0, .int .i64 0]) (by kernel_rfl) rfl
theorem zi_67 : Z5 prog 67 (.agg [.nilsl, .nilsl, .bool false]) := ZP rfl (.agg #[.slice none 0 0, .slice none 0 0, .bool false]) (by kernel_rfl) rfl
theorem zi_69 : Z5 prog 69 (.agg [.int .i64 0, .bool false, .int .i64 0, .agg [.nilsl, .nilsl, .bool false]]) := ZP rfl (.agg #[.int .i64 0, .bool false, .int .i64 0, .slice none 0 0, .slice none 0 0, .bool false]) (by kernel_rfl) rfl
theorem zi_85 : Z5 prog 85 (.agg [.nilsl, .nilsl]) := ZP rfl (.agg #[.slice none 0 0, .slice none 0 0]) (by kernel_rfl) rfl
theorem zi_87 : Z5 prog 87 (.agg [.int .i64 0, .nilsl, .int .i64 0, .nilsl]) := ZP rfl (.agg #[.int .i64 0, .slice none 0 0, .int .i64 0, .slice none 0 0]) (by kernel_rfl) rfl
theorem zi_99 : Z5 prog 99 (.agg [.str [], .int .i64 0, .int .i64 0]) := ZP rfl (.agg #[.string ⟨#[]⟩, .int .i64 0, .int .i64 0]) (by kernel_rfl) rfl
theorem zi_102 : Z5 prog 102 (.agg [.bool false, .bool false, .bool false, .int .i64 0, .bool false]) := ZP rfl (.agg #[.bool false, .bool false, .bool false, .int .i64 0, .bool false]) (by kernel_rfl) rfl
theorem zi_103 : Z5 prog 103 (.agg [.agg [.bool false, .bool false, .bool false, .int .i64 0, .bool false], .agg [.bool false, .bool false, .bool false, .int .i64 0, .bool false], .agg [.bool false, .bool false, .bool false, .int .i64 0, .bool false], .agg [.bool false, .bool false, .bool false, .int .i64 0, .bool false], .agg [.bool false, .bool false, .bool false, .int .i64 0, .bool false], .agg [.bool false, .bool false, .bool false, .int .i64 0, .bool false], .agg [.bool false, .bool false, .bool false, .int .i64 0, .bool false], .agg [.bool false, .bool false, .bool false, .int .i64 0, .bool false]]) := ZP rfl (.agg #[.bool false, .bool false, .bool false, .int .i64 0, .bool false, .bool false, .bool false, .bool false, .int .i64 0, .bool false, .bool false, .bool false, .bool false, .int .i64 0, .bool false, .bool false, .bool false, .bool false, .int .i64 0, .bool false, .bool false, .bool false, .bool false, .int .i64 0, .bool false, .bool false, .bool false, .bool false, .int .i64 0, .bool false, .bool false, .bool false, .bool false, .int .i64 0, .bool false, .bool false, .bool false, .bool false, .int .i64 0, .bool false]) (by kernel_rfl) rfl
theorem zi_119 : Z5 prog 119 (.agg []) := ZP rfl (.agg #[]) (by kernel_rfl) rfl
theorem zi_138 : Z5 prog 138 (.agg [.nilsl, .int .i64 0, .bool false]) := ZP rfl (.agg #[.slice none 0 0, .int .i64 0, .bool false]) (by kernel_rfl) rfl
theorem zi_151 : Z5 prog 151 (.agg [.int .i64 0, .nilsl]) := ZP rfl (.agg #[.int .i64 0, .slice none 0 0]) (by kernel_rfl) rfl
theorem zi_157 : Z5 prog 157 (.agg [.nilsl]) := ZP rfl (.agg #[.slice none 0 0]) (by kernel_rfl) rfl
theorem zi_162 : Z5 prog 162 (.agg [.str [], .nilsl, .str [], .str [], .int .i64 0]) := ZP rfl (.agg #[.string ⟨#[]⟩, .slice none 0 0, .string ⟨#[]⟩, .string ⟨#[]⟩, .int .i64 0]) (by kernel_rfl) rfl
theorem zi_166 : Z5 prog 166 (.agg [.bool false, .int .i64 0, .nilsl]) := ZP rfl (.agg #[.bool false, .int .i64 0, .slice none 0 0]) (by kernel_rfl) rfl
theorem zi_173 : Z5 prog 173 (.agg [.nilsl, .int .i64 0]) := ZP rfl (.agg #[.slice none 0 0, .int .i64 0]) (by kernel_rfl) rfl
theorem zi_190 : Z5 prog 190 (.nilf) := ZP rfl (.nilFunc) (by kernel_rfl) rfl
theorem zi_198 : Z5 prog 198 (.agg [.int .u8 0, .str [], .int .i64 0, .int .i64 0]) := ZP rfl (.agg #[.int .u8 0, .string ⟨#[]⟩, .int .i64 0, .int .i64 0]) (by kernel_rfl) rfl
theorem zi_200 : Z5 prog 200 (.agg [.str [], .agg [.nilsl], .agg [.int .u8 0, .str [], .int .i64 0, .int .i64 0], .int .i64 0, .int .i64 0, .int .i64 0]) := ZP rfl (.agg #[.string ⟨#[]⟩, .slice none 0 0, .int .u8 0, .string ⟨#[]⟩, .int .i64 0, .int .i64 0, .int .i64 0, .int .i64 0, .int .i64 0]) (by kernel_rfl) rfl
theorem zi_208 : Z5 prog 208 (.agg [.int .i64 0]) := ZP rfl (.agg #[.int .i64 0]) (by kernel_rfl) rfl
theorem zi_211 : Z5 prog 211 (.agg [.int .i64 0, .int .i64 0, .str [], .int .i64 0, .nilsl]) := ZP rfl (.agg #[.int .i64 0, .int .i64 0, .string ⟨#[]⟩, .int .i64 0, .slice none 0 0]) (by kernel_rfl) rfl
theorem zi_214 : Z5 prog 214 (.agg [.agg [.nilsl], .str [], .int .i64 0, .agg [.int .i64 0, .int .i64 0, .str [], .int .i64 0, .nilsl], .nilsl, .int .i64 0]) := ZP rfl (.agg #[.slice none 0 0, .string ⟨#[]⟩, .int .i64 0, .int .i64 0, .int .i64 0, .string ⟨#[]⟩, .int .i64 0, .slice none 0 0, .slice none 0 0, .int .i64 0]) (by kernel_rfl) rfl
theorem zi_228 : Z5 prog 228 (.agg [.str [], .str [], .str [], .str [], .str [], .str [], .str [], .str [], .str []]) := ZP rfl (.agg #[.string ⟨#[]⟩, .string ⟨#[]⟩, .string ⟨#[]⟩, .string ⟨#[]⟩, .string ⟨#[]⟩, .string ⟨#[]⟩, .string ⟨#[]⟩, .string ⟨#[]⟩, .string ⟨#[]⟩]) (by kernel_rfl) rfl
theorem zi_232 : Z5 prog 232 (.agg [.int .u32 0, .int .u32 0, .int .u32 0, .int .u32 0, .int .u32 0, .int .u32 0, .int .u32 0, .int .u32 0, .int .u32 0, .int .u32 0, .int .u32 0, .int .u32 0, .int .u32 0, .int .u32 0, .int .u32 0, .int .u32 0]) := ZP rfl (.agg #[.int .u32 0, .int .u32 0, .int .u32 0, .int .u32 0, .int .u32 0, .int .u32 0, .int .u32 0, .int .u32 0, .int .u32 0, .int .u32 0, .int .u32 0, .int .u32 0, .int .u32 0, .int .u32 0, .int .u32 0, .int .u32 0]) (by kernel_rfl) rfl
theorem tF0 : Z0 prog 3 = true ∧ tAgg prog 3 = false ∧ tSz prog 3 = some 1 ∧ tInt prog 3 = some .i64 ∧ Z0 prog 4 = true ∧ tAgg prog 4 = false ∧ tSz prog 4 = some 1 ∧ Ja prog 4 = true ∧ Z0 prog 5 = true ∧ tAgg prog 5 = false ∧ tSz prog 5 = some 1 ∧ tInt prog 5 = some .u8 ∧ Z0 prog 9 = true ∧ tAgg prog 9 = false ∧ tSz prog 9 = some 1 ∧ XW prog 9 = true ∧ Z0 prog 20 = true ∧ tAgg prog 20 = false ∧ tSz prog 20 = some 1 ∧ tIsIf prog 20 = true ∧ Ld prog 20 = true ∧ Z0 prog 22 = true ∧ tAgg prog 22 = false ∧ tSz prog 22 = some 1 ∧ Wo prog 22 = some 3 ∧ tEl prog 22 = some (3, 32) ∧ Xu prog 22 = true ∧ X4 prog 22 = false ∧ Z0 prog 24 = true ∧ tAgg prog 24 = true ∧ tSz prog 24 = some 1 ∧ tFld prog 24 0 = some (0, 1) ∧ tPlc prog 24 0 = some (0, 1) ∧ ZI prog 24 0 = false ∧ ZH prog 24 0 = true ∧ Y6 prog 24 = true ∧ Z0 prog 25 = true ∧ tAgg prog 25 = false ∧ tSz prog 25 = some 1 ∧ Wo prog 25 = some 1 := by (repeat' refine And.intro ?_ ?_) <;> kernel_rfl
theorem tF1 : tEl prog 25 = some (1, 1) ∧ Xu prog 25 = true ∧ XW prog 25 = false ∧ X4 prog 25 = true ∧ tElT prog 25 = some 5 ∧ Z0 prog 26 = true ∧ tAgg prog 26 = false ∧ tSz prog 26 = some 1 ∧ Wo prog 26 = some 4 ∧ tEl prog 26 = some (4, 64) ∧ Xu prog 26 = true ∧ X4 prog 26 = false ∧ tElT prog 26 = some 60 ∧ Z0 prog 27 = true ∧ tAgg prog 27 = false ∧ tSz prog 27 = some 1 ∧ Wo prog 27 = some 6 ∧ tEl prog 27 = some (6, 80) ∧ Xu prog 27 = true ∧ X4 prog 27 = false ∧ Z0 prog 28 = true ∧ tAgg prog 28 = false ∧ tSz prog 28 = some 1 ∧ Wo prog 28 = some 1 ∧ tEl prog 28 = some (1, 8) ∧ Xu prog 28 = true ∧ X4 prog 28 = false ∧ Z0 prog 30 = true ∧ tAgg prog 30 = true ∧ tSz prog 30 = some 10 ∧ tFld prog 30 0 = some (0, 1) ∧ tPlc prog 30 0 = some (0, 1) ∧ ZI prog 30 0 = false ∧ ZH prog 30 0 = true ∧ tFld prog 30 1 = some (1, 1) ∧ tPlc prog 30 1 = some (1, 1) ∧ ZI prog 30 1 = false ∧ ZH prog 30 1 = true ∧ tFld prog 30 2 = some (2, 1) ∧ tPlc prog 30 2 = some (2, 1) := by (repeat' refine And.intro ?_ ?_) <;> kernel_rfl
theorem tF2 : ZI prog 30 2 = false ∧ ZH prog 30 2 = true ∧ tFld prog 30 3 = some (3, 1) ∧ tPlc prog 30 3 = some (3, 1) ∧ ZI prog 30 3 = false ∧ ZH prog 30 3 = true ∧ tFld prog 30 4 = some (4, 1) ∧ tPlc prog 30 4 = some (4, 1) ∧ ZI prog 30 4 = false ∧ ZH prog 30 4 = true ∧ tFld prog 30 5 = some (5, 1) ∧ tPlc prog 30 5 = some (5, 1) ∧ ZI prog 30 5 = false ∧ ZH prog 30 5 = true ∧ tFld prog 30 6 = some (6, 1) ∧ tPlc prog 30 6 = some (6, 1) ∧ ZI prog 30 6 = false ∧ ZH prog 30 6 = true ∧ tFld prog 30 7 = some (7, 1) ∧ tPlc prog 30 7 = some (7, 1) ∧ ZI prog 30 7 = false ∧ ZH prog 30 7 = true ∧ tFld prog 30 8 = some (8, 1) ∧ tPlc prog 30 8 = some (8, 1) ∧ ZI prog 30 8 = false ∧ ZH prog 30 8 = true ∧ tFld prog 30 9 = some (9, 1) ∧ tPlc prog 30 9 = some (9, 1) ∧ ZI prog 30 9 = false ∧ ZH prog 30 9 = true ∧ Y6 prog 30 = true ∧ Z0 prog 32 = true ∧ tAgg prog 32 = true ∧ tSz prog 32 = some 17 ∧ tFld prog 32 0 = some (0, 1) ∧ tPlc prog 32 0 = some (0, 1) ∧ ZI prog 32 0 = false ∧ ZH prog 32 0 = true ∧ tFld prog 32 1 = some (1, 1) ∧ tPlc prog 32 1 = some (1, 1) := by (repeat' refine And.intro ?_ ?_) <;> kernel_rfl
theorem tF3 : ZI prog 32 1 = false ∧ ZH prog 32 1 = true ∧ tFld prog 32 2 = some (2, 1) ∧ tPlc prog 32 2 = some (2, 1) ∧ ZI prog 32 2 = false ∧ ZH prog 32 2 = true ∧ tFld prog 32 3 = some (3, 1) ∧ tPlc prog 32 3 = some (3, 1) ∧ ZI prog 32 3 = false ∧ ZH prog 32 3 = true ∧ tFld prog 32 4 = some (4, 1) ∧ tPlc prog 32 4 = some (4, 1) ∧ ZI prog 32 4 = false ∧ ZH prog 32 4 = true ∧ tFld prog 32 5 = some (5, 1) ∧ tPlc prog 32 5 = some (5, 1) ∧ ZI prog 32 5 = false ∧ ZH prog 32 5 = true ∧ tFld prog 32 6 = some (6, 1) ∧ tPlc prog 32 6 = some (6, 1) ∧ ZI prog 32 6 = false ∧ ZH prog 32 6 = true ∧ tFld prog 32 7 = some (7, 10) ∧ tPlc prog 32 7 = some (7, 10) ∧ ZI prog 32 7 = true ∧ ZH prog 32 7 = true ∧ Y6 prog 32 = true ∧ Z0 prog 36 = true ∧ tAgg prog 36 = false ∧ tSz prog 36 = some 1 ∧ tInt prog 36 = some .i64 ∧ Z0 prog 47 = true ∧ tAgg prog 47 = false ∧ tSz prog 47 = some 1 ∧ Wo prog 47 = some 1 ∧ tEl prog 47 = some (1, 24) ∧ Xu prog 47 = true ∧ X4 prog 47 = false ∧ Z0 prog 49 = true ∧ tAgg prog 49 = true := by (repeat' refine And.intro ?_ ?_) <;> kernel_rfl
theorem tF4 : tSz prog 49 = some 2 ∧ tFld prog 49 0 = some (0, 1) ∧ tPlc prog 49 0 = some (0, 1) ∧ ZI prog 49 0 = false ∧ ZH prog 49 0 = true ∧ tFld prog 49 1 = some (1, 1) ∧ tPlc prog 49 1 = some (1, 1) ∧ ZI prog 49 1 = false ∧ ZH prog 49 1 = true ∧ Y6 prog 49 = true ∧ Z0 prog 60 = true ∧ tAgg prog 60 = true ∧ tSz prog 60 = some 4 ∧ tFld prog 60 0 = some (0, 1) ∧ tPlc prog 60 0 = some (0, 1) ∧ ZI prog 60 0 = false ∧ ZH prog 60 0 = true ∧ tFld prog 60 1 = some (1, 1) ∧ tPlc prog 60 1 = some (1, 1) ∧ ZI prog 60 1 = false ∧ ZH prog 60 1 = true ∧ tFld prog 60 2 = some (2, 1) ∧ tPlc prog 60 2 = some (2, 1) ∧ ZI prog 60 2 = false ∧ ZH prog 60 2 = true ∧ tFld prog 60 3 = some (3, 1) ∧ tPlc prog 60 3 = some (3, 1) ∧ ZI prog 60 3 = false ∧ ZH prog 60 3 = true ∧ Y6 prog 60 = true ∧ Z0 prog 62 = true ∧ tAgg prog 62 = true ∧ tSz prog 62 = some 6 ∧ tFld prog 62 0 = some (0, 1) ∧ tPlc prog 62 0 = some (0, 1) ∧ ZI prog 62 0 = false ∧ ZH prog 62 0 = true ∧ tFld prog 62 1 = some (1, 1) ∧ tPlc prog 62 1 = some (1, 1) ∧ ZI prog 62 1 = false := by (repeat' refine And.intro ?_ ?_) <;> kernel_rfl
theorem tF5 : ZH prog 62 1 = true ∧ tFld prog 62 2 = some (2, 1) ∧ tPlc prog 62 2 = some (2, 1) ∧ ZI prog 62 2 = false ∧ ZH prog 62 2 = true ∧ tFld prog 62 3 = some (3, 1) ∧ tPlc prog 62 3 = some (3, 1) ∧ ZI prog 62 3 = false ∧ ZH prog 62 3 = true ∧ tFld prog 62 4 = some (4, 1) ∧ tPlc prog 62 4 = some (4, 1) ∧ ZI prog 62 4 = false ∧ ZH prog 62 4 = true ∧ tFld prog 62 5 = some (5, 1) ∧ tPlc prog 62 5 = some (5, 1) ∧ ZI prog 62 5 = false ∧ ZH prog 62 5 = true ∧ Y6 prog 62 = true ∧ Z0 prog 65 = true ∧ tAgg prog 65 = false ∧ tSz prog 65 = some 1 ∧ Wo prog 65 = some 2 ∧ tEl prog 65 = some (2, 48) ∧ Xu prog 65 = true ∧ X4 prog 65 = false ∧ Z0 prog 67 = true ∧ tAgg prog 67 = true ∧ tSz prog 67 = some 3 ∧ tFld prog 67 0 = some (0, 1) ∧ tPlc prog 67 0 = some (0, 1) ∧ ZI prog 67 0 = false ∧ ZH prog 67 0 = true ∧ tFld prog 67 1 = some (1, 1) ∧ tPlc prog 67 1 = some (1, 1) ∧ ZI prog 67 1 = false ∧ ZH prog 67 1 = true ∧ tFld prog 67 2 = some (2, 1) ∧ tPlc prog 67 2 = some (2, 1) ∧ ZI prog 67 2 = false ∧ ZH prog 67 2 = true := by (repeat' refine And.intro ?_ ?_) <;> kernel_rfl
theorem tF6 : Y6 prog 67 = true ∧ Z0 prog 69 = true ∧ tAgg prog 69 = true ∧ tSz prog 69 = some 6 ∧ tFld prog 69 0 = some (0, 1) ∧ tPlc prog 69 0 = some (0, 1) ∧ ZI prog 69 0 = false ∧ ZH prog 69 0 = true ∧ tFld prog 69 1 = some (1, 1) ∧ tPlc prog 69 1 = some (1, 1) ∧ ZI prog 69 1 = false ∧ ZH prog 69 1 = true ∧ tFld prog 69 2 = some (2, 1) ∧ tPlc prog 69 2 = some (2, 1) ∧ ZI prog 69 2 = false ∧ ZH prog 69 2 = true ∧ tFld prog 69 3 = some (3, 3) ∧ tPlc prog 69 3 = some (3, 3) ∧ ZI prog 69 3 = true ∧ ZH prog 69 3 = true ∧ Y6 prog 69 = true ∧ Z0 prog 83 = true ∧ tAgg prog 83 = false ∧ tSz prog 83 = some 1 ∧ Wo prog 83 = some 4 ∧ tEl prog 83 = some (4, 64) ∧ Xu prog 83 = true ∧ X4 prog 83 = false ∧ Z0 prog 85 = true ∧ tAgg prog 85 = true ∧ tSz prog 85 = some 2 ∧ tFld prog 85 0 = some (0, 1) ∧ tPlc prog 85 0 = some (0, 1) ∧ ZI prog 85 0 = false ∧ ZH prog 85 0 = true ∧ tFld prog 85 1 = some (1, 1) ∧ tPlc prog 85 1 = some (1, 1) ∧ ZI prog 85 1 = false ∧ ZH prog 85 1 = true ∧ Y6 prog 85 = true := by (repeat' refine And.intro ?_ ?_) <;> kernel_rfl
theorem tF7 : Z0 prog 87 = true ∧ tAgg prog 87 = true ∧ tSz prog 87 = some 4 ∧ tFld prog 87 0 = some (0, 1) ∧ tPlc prog 87 0 = some (0, 1) ∧ ZI prog 87 0 = false ∧ ZH prog 87 0 = true ∧ tFld prog 87 1 = some (1, 1) ∧ tPlc prog 87 1 = some (1, 1) ∧ ZI prog 87 1 = false ∧ ZH prog 87 1 = true ∧ tFld prog 87 2 = some (2, 1) ∧ tPlc prog 87 2 = some (2, 1) ∧ ZI prog 87 2 = false ∧ ZH prog 87 2 = true ∧ tFld prog 87 3 = some (3, 1) ∧ tPlc prog 87 3 = some (3, 1) ∧ ZI prog 87 3 = false ∧ ZH prog 87 3 = true ∧ Y6 prog 87 = true ∧ Z0 prog 89 = true ∧ tAgg prog 89 = false ∧ tSz prog 89 = some 1 ∧ Wo prog 89 = some 3 ∧ tEl prog 89 = some (3, 24) ∧ Xu prog 89 = true ∧ X4 prog 89 = false ∧ Z0 prog 92 = true ∧ tAgg prog 92 = true ∧ tSz prog 92 = some 3 ∧ tFld prog 92 0 = some (0, 1) ∧ tPlc prog 92 0 = some (0, 1) ∧ ZI prog 92 0 = false ∧ ZH prog 92 0 = true ∧ tFld prog 92 1 = some (1, 1) ∧ tPlc prog 92 1 = some (1, 1) ∧ ZI prog 92 1 = false ∧ ZH prog 92 1 = true ∧ tFld prog 92 2 = some (2, 1) ∧ tPlc prog 92 2 = some (2, 1) := by (repeat' refine And.intro ?_ ?_) <;> kernel_rfl
theorem tF8 : ZI prog 92 2 = false ∧ ZH prog 92 2 = true ∧ Y6 prog 92 = true ∧ Z0 prog 99 = true ∧ tAgg prog 99 = true ∧ tSz prog 99 = some 3 ∧ tFld prog 99 0 = some (0, 1) ∧ tPlc prog 99 0 = some (0, 1) ∧ ZI prog 99 0 = false ∧ ZH prog 99 0 = true ∧ tFld prog 99 1 = some (1, 1) ∧ tPlc prog 99 1 = some (1, 1) ∧ ZI prog 99 1 = false ∧ ZH prog 99 1 = true ∧ tFld prog 99 2 = some (2, 1) ∧ tPlc prog 99 2 = some (2, 1) ∧ ZI prog 99 2 = false ∧ ZH prog 99 2 = true ∧ Y6 prog 99 = true ∧ Z0 prog 102 = true ∧ tAgg prog 102 = true ∧ tSz prog 102 = some 5 ∧ tFld prog 102 0 = some (0, 1) ∧ tPlc prog 102 0 = some (0, 1) ∧ ZI prog 102 0 = false ∧ ZH prog 102 0 = true ∧ tFld prog 102 1 = some (1, 1) ∧ tPlc prog 102 1 = some (1, 1) ∧ ZI prog 102 1 = false ∧ ZH prog 102 1 = true ∧ tFld prog 102 2 = some (2, 1) ∧ tPlc prog 102 2 = some (2, 1) ∧ ZI prog 102 2 = false ∧ ZH prog 102 2 = true ∧ tFld prog 102 3 = some (3, 1) ∧ tPlc prog 102 3 = some (3, 1) ∧ ZI prog 102 3 = false ∧ ZH prog 102 3 = true ∧ tFld prog 102 4 = some (4, 1) ∧ tPlc prog 102 4 = some (4, 1) := by (repeat' refine And.intro ?_ ?_) <;> kernel_rfl
theorem tF9 : ZI prog 102 4 = false ∧ ZH prog 102 4 = true ∧ Y6 prog 102 = true ∧ Z0 prog 103 = true ∧ tAgg prog 103 = true ∧ tSz prog 103 = some 40 ∧ tAry prog 103 = some (8, 5) ∧ tArr prog 103 = some (8, 5, true) ∧ tPlc prog 103 0 = some (0, 5) ∧ tPlc prog 103 1 = some (5, 5) ∧ tPlc prog 103 2 = some (10, 5) ∧ tPlc prog 103 3 = some (15, 5) ∧ tPlc prog 103 4 = some (20, 5) ∧ tPlc prog 103 5 = some (25, 5) ∧ tPlc prog 103 6 = some (30, 5) ∧ tPlc prog 103 7 = some (35, 5) ∧ Y6 prog 103 = true ∧ Uu.tArrS prog 103 = true ∧ Z0 prog 105 = true ∧ tAgg prog 105 = false ∧ tSz prog 105 = some 1 ∧ QC prog 105 = true ∧ Z0 prog 107 = true ∧ tAgg prog 107 = false ∧ tSz prog 107 = some 1 ∧ QC prog 107 = true ∧ Z0 prog 119 = true ∧ tAgg prog 119 = true ∧ tSz prog 119 = some 0 ∧ Y6 prog 119 = true ∧ UT prog 119 = true ∧ Z0 prog 120 = true ∧ tAgg prog 120 = false ∧ tSz prog 120 = some 1 ∧ QC prog 120 = true ∧ Z0 prog 138 = true ∧ tAgg prog 138 = true ∧ tSz prog 138 = some 3 ∧ tFld prog 138 0 = some (0, 1) ∧ tPlc prog 138 0 = some (0, 1) := by (repeat' refine And.intro ?_ ?_) <;> kernel_rfl
theorem tF10 : ZI prog 138 0 = false ∧ ZH prog 138 0 = true ∧ tFld prog 138 1 = some (1, 1) ∧ tPlc prog 138 1 = some (1, 1) ∧ ZI prog 138 1 = false ∧ ZH prog 138 1 = true ∧ tFld prog 138 2 = some (2, 1) ∧ tPlc prog 138 2 = some (2, 1) ∧ ZI prog 138 2 = false ∧ ZH prog 138 2 = true ∧ Y6 prog 138 = true ∧ Z0 prog 151 = true ∧ tAgg prog 151 = true ∧ tSz prog 151 = some 2 ∧ tFld prog 151 0 = some (0, 1) ∧ tPlc prog 151 0 = some (0, 1) ∧ ZI prog 151 0 = false ∧ ZH prog 151 0 = true ∧ tFld prog 151 1 = some (1, 1) ∧ tPlc prog 151 1 = some (1, 1) ∧ ZI prog 151 1 = false ∧ ZH prog 151 1 = true ∧ Y6 prog 151 = true ∧ Z0 prog 157 = true ∧ tAgg prog 157 = true ∧ tSz prog 157 = some 1 ∧ tFld prog 157 0 = some (0, 1) ∧ tPlc prog 157 0 = some (0, 1) ∧ ZI prog 157 0 = false ∧ ZH prog 157 0 = true ∧ Y6 prog 157 = true ∧ Z0 prog 160 = true ∧ tAgg prog 160 = false ∧ tSz prog 160 = some 1 ∧ Wo prog 160 = some 5 ∧ tEl prog 160 = some (5, 80) ∧ Xu prog 160 = true ∧ X4 prog 160 = false ∧ Z0 prog 162 = true ∧ tAgg prog 162 = true := by (repeat' refine And.intro ?_ ?_) <;> kernel_rfl
theorem tF11 : tSz prog 162 = some 5 ∧ tFld prog 162 0 = some (0, 1) ∧ tPlc prog 162 0 = some (0, 1) ∧ ZI prog 162 0 = false ∧ ZH prog 162 0 = true ∧ tFld prog 162 1 = some (1, 1) ∧ tPlc prog 162 1 = some (1, 1) ∧ ZI prog 162 1 = false ∧ ZH prog 162 1 = true ∧ tFld prog 162 2 = some (2, 1) ∧ tPlc prog 162 2 = some (2, 1) ∧ ZI prog 162 2 = false ∧ ZH prog 162 2 = true ∧ tFld prog 162 3 = some (3, 1) ∧ tPlc prog 162 3 = some (3, 1) ∧ ZI prog 162 3 = false ∧ ZH prog 162 3 = true ∧ tFld prog 162 4 = some (4, 1) ∧ tPlc prog 162 4 = some (4, 1) ∧ ZI prog 162 4 = false ∧ ZH prog 162 4 = true ∧ Y6 prog 162 = true ∧ Z0 prog 166 = true ∧ tAgg prog 166 = true ∧ tSz prog 166 = some 3 ∧ tFld prog 166 0 = some (0, 1) ∧ tPlc prog 166 0 = some (0, 1) ∧ ZI prog 166 0 = false ∧ ZH prog 166 0 = true ∧ tFld prog 166 1 = some (1, 1) ∧ tPlc prog 166 1 = some (1, 1) ∧ ZI prog 166 1 = false ∧ ZH prog 166 1 = true ∧ tFld prog 166 2 = some (2, 1) ∧ tPlc prog 166 2 = some (2, 1) ∧ ZI prog 166 2 = false ∧ ZH prog 166 2 = true ∧ Y6 prog 166 = true ∧ Z0 prog 170 = true ∧ tAgg prog 170 = false := by (repeat' refine And.intro ?_ ?_) <;> kernel_rfl
theorem tF12 : tSz prog 170 = some 1 ∧ Wo prog 170 = some 1 ∧ tEl prog 170 = some (1, 8) ∧ Xu prog 170 = true ∧ X4 prog 170 = false ∧ Z0 prog 173 = true ∧ tAgg prog 173 = true ∧ tSz prog 173 = some 2 ∧ tFld prog 173 0 = some (0, 1) ∧ tPlc prog 173 0 = some (0, 1) ∧ ZI prog 173 0 = false ∧ ZH prog 173 0 = true ∧ tFld prog 173 1 = some (1, 1) ∧ tPlc prog 173 1 = some (1, 1) ∧ ZI prog 173 1 = false ∧ ZH prog 173 1 = true ∧ Y6 prog 173 = true ∧ Z0 prog 174 = true ∧ tAgg prog 174 = false ∧ tSz prog 174 = some 1 ∧ tInt prog 174 = some .u64 ∧ Z0 prog 190 = true ∧ tAgg prog 190 = false ∧ tSz prog 190 = some 1 ∧ QC prog 190 = true ∧ Z0 prog 198 = true ∧ tAgg prog 198 = true ∧ tSz prog 198 = some 4 ∧ tFld prog 198 0 = some (0, 1) ∧ tPlc prog 198 0 = some (0, 1) ∧ ZI prog 198 0 = false ∧ ZH prog 198 0 = true ∧ tFld prog 198 1 = some (1, 1) ∧ tPlc prog 198 1 = some (1, 1) ∧ ZI prog 198 1 = false ∧ ZH prog 198 1 = true ∧ tFld prog 198 2 = some (2, 1) ∧ tPlc prog 198 2 = some (2, 1) ∧ ZI prog 198 2 = false ∧ ZH prog 198 2 = true := by (repeat' refine And.intro ?_ ?_) <;> kernel_rfl
theorem tF13 : tFld prog 198 3 = some (3, 1) ∧ tPlc prog 198 3 = some (3, 1) ∧ ZI prog 198 3 = false ∧ ZH prog 198 3 = true ∧ Y6 prog 198 = true ∧ Z0 prog 200 = true ∧ tAgg prog 200 = true ∧ tSz prog 200 = some 9 ∧ tFld prog 200 0 = some (0, 1) ∧ tPlc prog 200 0 = some (0, 1) ∧ ZI prog 200 0 = false ∧ ZH prog 200 0 = true ∧ tFld prog 200 1 = some (1, 1) ∧ tPlc prog 200 1 = some (1, 1) ∧ ZI prog 200 1 = true ∧ ZH prog 200 1 = true ∧ tFld prog 200 2 = some (2, 4) ∧ tPlc prog 200 2 = some (2, 4) ∧ ZI prog 200 2 = true ∧ ZH prog 200 2 = true ∧ tFld prog 200 3 = some (6, 1) ∧ tPlc prog 200 3 = some (6, 1) ∧ ZI prog 200 3 = false ∧ ZH prog 200 3 = true ∧ tFld prog 200 4 = some (7, 1) ∧ tPlc prog 200 4 = some (7, 1) ∧ ZI prog 200 4 = false ∧ ZH prog 200 4 = true ∧ tFld prog 200 5 = some (8, 1) ∧ tPlc prog 200 5 = some (8, 1) ∧ ZI prog 200 5 = false ∧ ZH prog 200 5 = true ∧ Y6 prog 200 = true ∧ Z0 prog 204 = true ∧ tAgg prog 204 = false ∧ tSz prog 204 = some 1 ∧ tInt prog 204 = some .u64 ∧ Z0 prog 208 = true ∧ tAgg prog 208 = true ∧ tSz prog 208 = some 1 := by (repeat' refine And.intro ?_ ?_) <;> kernel_rfl
theorem tF14 : tFld prog 208 0 = some (0, 1) ∧ tPlc prog 208 0 = some (0, 1) ∧ ZI prog 208 0 = false ∧ ZH prog 208 0 = true ∧ Y6 prog 208 = true ∧ UT prog 208 = true ∧ Z0 prog 211 = true ∧ tAgg prog 211 = true ∧ tSz prog 211 = some 5 ∧ tFld prog 211 0 = some (0, 1) ∧ tPlc prog 211 0 = some (0, 1) ∧ ZI prog 211 0 = false ∧ ZH prog 211 0 = true ∧ tFld prog 211 1 = some (1, 1) ∧ tPlc prog 211 1 = some (1, 1) ∧ ZI prog 211 1 = false ∧ ZH prog 211 1 = true ∧ tFld prog 211 2 = some (2, 1) ∧ tPlc prog 211 2 = some (2, 1) ∧ ZI prog 211 2 = false ∧ ZH prog 211 2 = true ∧ tFld prog 211 3 = some (3, 1) ∧ tPlc prog 211 3 = some (3, 1) ∧ ZI prog 211 3 = false ∧ ZH prog 211 3 = true ∧ tFld prog 211 4 = some (4, 1) ∧ tPlc prog 211 4 = some (4, 1) ∧ ZI prog 211 4 = false ∧ ZH prog 211 4 = true ∧ Y6 prog 211 = true ∧ Z0 prog 212 = true ∧ tAgg prog 212 = false ∧ tSz prog 212 = some 1 ∧ Wo prog 212 = some 5 ∧ tEl prog 212 = some (5, 64) ∧ Xu prog 212 = true ∧ X4 prog 212 = false ∧ Z0 prog 214 = true ∧ tAgg prog 214 = true ∧ tSz prog 214 = some 10 := by (repeat' refine And.intro ?_ ?_) <;> kernel_rfl
theorem tF15 : tFld prog 214 0 = some (0, 1) ∧ tPlc prog 214 0 = some (0, 1) ∧ ZI prog 214 0 = true ∧ ZH prog 214 0 = true ∧ tFld prog 214 1 = some (1, 1) ∧ tPlc prog 214 1 = some (1, 1) ∧ ZI prog 214 1 = false ∧ ZH prog 214 1 = true ∧ tFld prog 214 2 = some (2, 1) ∧ tPlc prog 214 2 = some (2, 1) ∧ ZI prog 214 2 = false ∧ ZH prog 214 2 = true ∧ tFld prog 214 3 = some (3, 5) ∧ tPlc prog 214 3 = some (3, 5) ∧ ZI prog 214 3 = true ∧ ZH prog 214 3 = true ∧ tFld prog 214 4 = some (8, 1) ∧ tPlc prog 214 4 = some (8, 1) ∧ ZI prog 214 4 = false ∧ ZH prog 214 4 = true ∧ tFld prog 214 5 = some (9, 1) ∧ tPlc prog 214 5 = some (9, 1) ∧ ZI prog 214 5 = false ∧ ZH prog 214 5 = true ∧ Y6 prog 214 = true ∧ Z0 prog 217 = true ∧ tAgg prog 217 = false ∧ tSz prog 217 = some 1 ∧ tInt prog 217 = some .u32 ∧ Z0 prog 228 = true ∧ tAgg prog 228 = true ∧ tSz prog 228 = some 9 ∧ tAry prog 228 = some (9, 1) ∧ tArr prog 228 = some (9, 1, false) ∧ tPlc prog 228 0 = some (0, 1) ∧ tPlc prog 228 1 = some (1, 1) ∧ tPlc prog 228 2 = some (2, 1) ∧ tPlc prog 228 3 = some (3, 1) ∧ tPlc prog 228 4 = some (4, 1) ∧ tPlc prog 228 5 = some (5, 1) := by (repeat' refine And.intro ?_ ?_) <;> kernel_rfl
theorem tF16 : tPlc prog 228 6 = some (6, 1) ∧ tPlc prog 228 7 = some (7, 1) ∧ tPlc prog 228 8 = some (8, 1) ∧ Y6 prog 228 = true ∧ Uu.tArrS prog 228 = true ∧ Z0 prog 232 = true ∧ tAgg prog 232 = true ∧ tSz prog 232 = some 16 ∧ tAry prog 232 = some (16, 1) ∧ tArr prog 232 = some (16, 1, false) ∧ tPlc prog 232 0 = some (0, 1) ∧ tPlc prog 232 1 = some (1, 1) ∧ tPlc prog 232 2 = some (2, 1) ∧ tPlc prog 232 3 = some (3, 1) ∧ tPlc prog 232 4 = some (4, 1) ∧ tPlc prog 232 5 = some (5, 1) ∧ tPlc prog 232 6 = some (6, 1) ∧ tPlc prog 232 7 = some (7, 1) ∧ tPlc prog 232 8 = some (8, 1) ∧ tPlc prog 232 9 = some (9, 1) ∧ tPlc prog 232 10 = some (10, 1) ∧ tPlc prog 232 11 = some (11, 1) ∧ tPlc prog 232 12 = some (12, 1) ∧ tPlc prog 232 13 = some (13, 1) ∧ tPlc prog 232 14 = some (14, 1) ∧ tPlc prog 232 15 = some (15, 1) ∧ Y6 prog 232 = true ∧ Uu.tArrS prog 232 = true ∧ Z0 prog 241 = true ∧ tAgg prog 241 = false ∧ tSz prog 241 = some 1 ∧ Wo prog 241 = some 1 ∧ tEl prog 241 = some (1, 16) ∧ Xu prog 241 = true ∧ X4 prog 241 = false := by (repeat' refine And.intro ?_ ?_) <;> kernel_rfl
theorem zF0 : zs 4294967295 = .junk ∧ zo 4294967295 = .bool true ∧ zs 3 = .int .i64 0 ∧ zo 3 = zs 3 ∧ zs 4 = .bool false ∧ zo 4 = zs 4 ∧ zs 5 = .int .u8 0 ∧ zo 5 = zs 5 ∧ zs 9 = .str [] ∧ zo 9 = zs 9 ∧ zs 24 = .agg [.nilsl] ∧ zo 24 = zs 24 ∧ zs 25 = .nilsl ∧ zo 25 = zs 25 ∧ zs 30 = .agg [.nilsl, .nilsl, .nilsl, .nilsl, .int .i64 0, .int .i64 0, .int .i64 0, .bool false, .str [], .nilsl] ∧ zo 30 = zs 30 ∧ zs 32 = .agg [.int .i64 0, .int .i64 0, .int .i64 0, .nilsl, .nilsl, .nilsl, .int .i64 0, .agg [.nilsl, .nilsl, .nilsl, .nilsl, .int .i64 0, .int .i64 0, .int .i64 0, .bool false, .str [], .nilsl]] ∧ zo 32 = zs 32 ∧ zs 49 = .agg [.nilsl, .nilsl] ∧ zo 49 = zs 49 ∧ zs 60 = .agg [.int .i64 0, .int .i64 0, .nilsl, .nilsl] ∧ zo 60 = zs 60 ∧ zs 62 = .agg [.int .i64 0, .int .i64 0, .nilsl, .int .i64 0, .nilsl, .int .i64 0] ∧ zo 62 = zs 62 ∧ zs 67 = .agg [.nilsl, .nilsl, .bool false] ∧ zo 67 = zs 67 ∧ zs 69 = .agg [.int .i64 0, .bool false, .int .i64 0, .agg [.nilsl, .nilsl, .bool false]] ∧ zo 69 = zs 69 ∧ zs 85 = .agg [.nilsl, .nilsl] ∧ zo 85 = zs 85 ∧ zs 87 = .agg [.int .i64 0, .nilsl, .int .i64 0, .nilsl] ∧ zo 87 = zs 87 ∧ zs 99 = .agg [.str [], .int .i64 0, .int .i64 0] ∧ zo 99 = zs 99 ∧ zs 102 = .agg [.bool false, .bool false, .bool false, .int .i64 0, .bool false] ∧ zo 102 = zs 102 ∧ zs 103 = .agg [.agg [.bool false, .bool false, .bool false, .int .i64 0, .bool false], .agg [.bool false, .bool false, .bool false, .int .i64 0, .bool false], .agg [.bool false, .bool false, .bool false, .int .i64 0, .bool false], .agg [.bool false, .bool false, .bool false, .int .i64 0, .bool false], .agg [.bool false, .bool false, .bool false, .int .i64 0, .bool false], .agg [.bool false, .bool false, .bool false, .int .i64 0, .bool false], .agg [.bool false, .bool false, .bool false, .int .i64 0, .bool false], .agg [.bool false, .bool false, .bool false, .int .i64 0, .bool false]] ∧ zo 103 = zs 103 ∧ zs 119 = .agg [] ∧ zo 119 = zs 119 := by (repeat' refine And.intro ?_ ?_) <;> rfl
theorem zF1 : zs 138 = .agg [.nilsl, .int .i64 0, .bool false] ∧ zo 138 = zs 138 ∧ zs 151 = .agg [.int .i64 0, .nilsl] ∧ zo 151 = zs 151 ∧ zs 157 = .agg [.nilsl] ∧ zo 157 = zs 157 ∧ zs 162 = .agg [.str [], .nilsl, .str [], .str [], .int .i64 0] ∧ zo 162 = zs 162 ∧ zs 166 = .agg [.bool false, .int .i64 0, .nilsl] ∧ zo 166 = zs 166 ∧ zs 173 = .agg [.nilsl, .int .i64 0] ∧ zo 173 = zs 173 ∧ zs 190 = .nilf ∧ zo 190 = zs 190 ∧ zs 198 = .agg [.int .u8 0, .str [], .int .i64 0, .int .i64 0] ∧ zo 198 = zs 198 ∧ zs 200 = .agg [.str [], .agg [.nilsl], .agg [.int .u8 0, .str [], .int .i64 0, .int .i64 0], .int .i64 0, .int .i64 0, .int .i64 0] ∧ zo 200 = zs 200 ∧ zs 208 = .agg [.int .i64 0] ∧ zo 208 = zs 208 ∧ zs 211 = .agg [.int .i64 0, .int .i64 0, .str [], .int .i64 0, .nilsl] ∧ zo 211 = zs 211 ∧ zs 214 = .agg [.agg [.nilsl], .str [], .int .i64 0, .agg [.int .i64 0, .int .i64 0, .str [], .int .i64 0, .nilsl], .nilsl, .int .i64 0] ∧ zo 214 = zs 214 ∧ zs 228 = .agg [.str [], .str [], .str [], .str [], .str [], .str [], .str [], .str [], .str []] ∧ zo 228 = zs 228 ∧ zs 232 = .agg [.int .u32 0, .int .u32 0, .int .u32 0, .int .u32 0, .int .u32 0, .int .u32 0, .int .u32 0, .int .u32 0, .int .u32 0, .int .u32 0, .int .u32 0, .int .u32 0, .int .u32 0, .int .u32 0, .int .u32 0, .int .u32 0] ∧ zo 232 = zs 232 := by (repeat' refine And.intro ?_ ?_) <;> rfl
attribute [go_sem] zi_3 zi_4 zi_5 zi_9 zi_24 zi_25 zi_30 zi_32 zi_49 zi_60 zi_62 zi_67 zi_69 zi_85 zi_87 zi_99 zi_102 zi_103 zi_119 zi_138 zi_151 zi_157 zi_162 zi_166 zi_173 zi_190 zi_198 zi_200 zi_208 zi_211 zi_214 zi_228 zi_232 tF0 tF1 tF2 tF3 tF4 tF5 tF6 tF7 tF8 tF9 tF10 tF11 tF12 tF13 tF14 tF15 tF16 zF0 zF1
end Go.Proofs.YtifnhpmeoogedaaGreatDoor
namespace Go.Proofs.YtifnhpmeoogedaaGreatDoor
open Go Go.Sx Go.Rt Go.Proofs Tryz
theorem WB (x lo hi : Int) (H : Heap) (n : Nat) : Ret prog 102 [.int .i64 x, .int .i64 lo, .int .i64 hi] H n (.bool (bout x lo hi)) H n := by
 refine Zc func102 rfl ntmps102 (congrArg Array.toList results102) (by simp) ?_
 simp only [go_sem]
 refine ZE zs [0, 1, 2] ?_
 refine ZE zs [6] ?_
 refine Zf ?_
 simp only [go_sem, seval]
 unfold bout; by_cases h : x < lo <;> simp [h]
theorem QL (b : UInt8) (H : Heap) (n : Nat) : Ret prog 138 [Zn b] H n (.bool (XF b)) H n := by
 refine Zc func138 rfl ntmps138 (congrArg Array.toList results138) (by simp) ?_
 simp only [go_sem]
 refine ZE zs [0] ?_
 refine ZE zs [2] ?_
 refine Zf ?_
 simp only [go_sem, seval]
 unfold XF; by_cases h : 97 ≤ (b.toNat : Int) <;> simp [h]
theorem Yk (a b : List UInt8) (H : Heap) (n : Nat) : Ret prog 77 [bys a, bys b] H n (.bool (a == b)) H n := by
 refine Zc func77 rfl ntmps77 (congrArg Array.toList results77) (by simp) ?_
 simp only [go_sem]
 refine Za zs [0, 1] fun K Y => ?_
 simp only [go_sem, seval]
 apply Y; clear Y K
 refine Za zs [4] fun K Y => ?_
 simp only [go_sem, seval]
 repeat (first | refine peel ?_ | refine ⟨by exact Y4 _, ?_⟩)
 apply Y; clear Y K
 refine Zf ?_
 simp only [go_sem, seval]
 rw [Y0, Y0]
end Go.Proofs.YtifnhpmeoogedaaGreatDoor