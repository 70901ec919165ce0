/- Own layer: a region that draws its order, walked in an order that is chosen. Of every program. -/
import Derived.Test.YtifnhpmeoogedaaGreatDoorPD
import Derived.Laws.Bits64
import Derived.Lib.LaidTab
set_option linter.unusedSimpArgs false
set_option linter.unusedVariables false
namespace Go.Sx
open Go
def pwB (ps : List Nat) : List Nat → Bool
  | [] => true
  | a :: l => (l.all fun b => decide (ps.getD a 0 < ps.getD b 0)) && pwB ps l
theorem pwB_spec {ps : List Nat} : ∀ {l : List Nat}, pwB ps l = true → l.Pairwise fun a b => ps.getD a 0 < ps.getD b 0
  | [], _ => .nil
  | a :: l, h => by
    rw [pwB, Bool.and_eq_true] at h
    exact .cons (fun b hb => of_decide_eq_true (List.all_eq_true.1 h.1 b hb)) (pwB_spec h.2)
def incP (l : List Oper) (b : List Nat) (ps : List Nat) (j q : Nat) : Bool :=
  match l[q]? with
  | none => false
  | some oq => decide (ps.getD q 0 < ps.getD j 0) && disj oq.dst.toList (looksL l oq) &&
    (List.range l.length).all fun p => !decide (ps.getD p 0 < ps.getD j 0) || (p == q || isAnc b p q || (match l[p]? with | some op => disj op.dst.toList (looksL l oq ++ oq.dst.toList) | none => true))
def pairAA (l : List Oper) (b : List Nat) (i : Nat) (oi oj : Oper) : DK → DK → Bool
  | .a _ inci, .a _ incj => apartB l oi oj && (incj.all fun q => q == i || inci.contains q || isAnc b i q) && disj oj.dst.toList (inci.flatMap fun q => match l[q]? with | some o => looksL l o ++ o.dst.toList | none => [])
  | _, _ => false
def DK.isA : DK → Bool
  | .a _ _ => true
  | _ => false
def dcheckP (l : List Oper) (N : Nat) (ks : List DK) (ord ps : List Nat) : Bool :=
  let b := ancs [] l
  ks.length == l.length &&
  (l.zipIdx.all fun (o, i) => (edgesOf o).all fun e => decide (e < i)) &&
  ((l.zip ks).zipIdx.all fun ((oj, kj), j) =>
    (match kj with | .w inc => inc.all fun q => incP l b ps j q | .a _ inc => inc.all fun q => incP l b ps j q | _ => true) &&
    ((l.zip ks).zipIdx).all fun ((oi, ki), i) => !decide (ps.getD i 0 < ps.getD j 0) || (isAnc b i j || (pairB l N i j oi oj ki kj && (selfB l oi || ki.isW)) || pairAA l b i oi oj ki kj)) &&
  ord.all (fun i => decide (i < l.length)) && (List.range l.length).all (fun i => ord.contains i) && pwB ps ord &&
  (l.zipIdx.all fun (o, i) => (edgesOf o).all fun e => decide (ps.getD e 0 < ps.getD i 0)) && ord.length == l.length
section
variable {P : Program} {z : TypeId → AV} {N : Nat} {ops : Array Oper}
def PairAA (ops : Array Oper) (i : Nat) (ki : DK) (j : Nat) (kj : DK) : Prop :=
  ∃ oi oj, ops[i]? = some oi ∧ ops[j]? = some oj ∧ Apart (ops := ops) oi oj ∧ ∃ a inci b incj, ki = .a a inci ∧ kj = .a b incj ∧ (∀ q ∈ incj, q ≠ i → q ∈ inci ∨ isAnc (ancs [] ops.toList) i q = true) ∧ ∀ q ∈ inci, ∀ o, ops[q]? = some o → ∀ d, oj.dst = some d → d ∉ looks (ops := ops) o ∧ o.dst ≠ some d
theorem frontP (pos : Nat → Nat) {Q : AEx → (Nat → AV) → Heap → Nat → Prop} (hpan : ∀ p T T' H n, Q (.pan p) T H n → Q (.pan p) T' H n) (j : Nat) (kj : DK) :
    ∀ (m : Nat) (pre : List (Nat × DK × List Nat)) (I : List Nat) (post : List (Nat × DK × List Nat)) (T : Nat → AV) (H : Heap) (n : Nat), pre.length = m →
      (∀ p ∈ pre, p.2.2 = p.2.1.inc) → (∀ p ∈ pre, PairOK ops N p.1 p.2.1 j kj ∨ PairAA ops p.1 p.2.1 j kj) → (kj.isW = true → ∀ p ∈ pre, p.2.1 = .m ∨ p.1 ∈ I ∨ p.2.1.isA = true) → (∀ q ∈ I, q ∈ kj.inc ∧ ∀ p ∈ pre, isAnc (ancs [] ops.toList) p.1 q = true → q ∈ pre.map (·.1) ∧ pos p.1 < pos q) →
      (pre.map (·.1)).Pairwise (fun a b => pos a < pos b) → (kj.isW = true → ∀ q ∈ I, ∀ p ∈ pre, p.1 ≠ q → (pos p.1 < pos q ∧ q ∈ pre.map (·.1)) ∨ apartDst ops p.1 q) →
      drun P z N ops (pre ++ (j, kj, I) :: post) T H n Q → ∃ I', dstep P z N ops j kj I' T H n (fun T H n => drun P z N ops (pre ++ post) T H n Q) Q
  | 0, pre, I, post, T, H, n, hm, _, _, _, _, _, _, h => by
    have : pre = [] := List.length_eq_zero_iff.1 hm
    subst this
    exact ⟨I, h⟩
  | m + 1, pre, I, post, T, H, n, hm, hinc, hpair, hin, hII, hsort, hCI, h => by
    rcases List.eq_nil_or_concat pre with rfl | ⟨L, ⟨i, ki, Ii⟩, rfl⟩
    · simp at hm
    · simp only [List.concat_eq_append] at *
      rw [List.append_assoc] at h
      simp only [List.cons_append, List.nil_append] at h
      have hLm : L.length = m := by simpa using hm
      rw [List.map_append, List.pairwise_append] at hsort
      obtain ⟨hsortL, _, hlt⟩ := hsort
      have hlt' : ∀ p ∈ L, pos p.1 < pos i := fun p hp => hlt p.1 (List.mem_map.2 ⟨p, hp, rfl⟩) i (by simp)
      have hlast : kj.isW = true → ∀ q ∈ I, q ≠ i → apartDst ops i q := fun hw q hq hne => by
        rcases hCI hw q hq (i, ki, Ii) (by simp) (fun e => hne e.symm) with ⟨h1, h2⟩ | h1
        · exfalso
          rw [List.map_append, List.mem_append] at h2
          rcases h2 with h2 | h2
          · obtain ⟨p, hp, e⟩ := List.mem_map.1 h2
            have := hlt' p hp
            simp only at h1 e
            subst e
            omega
          · simp at h2; exact hne h2
        · exact h1
      have hb : ∀ T H n, drun P z N ops ((i, ki, Ii) :: (j, kj, I) :: post) T H n Q → drun P z N ops ((j, kj, if kj.isW then I.filter (· != i) else I) :: (i, ki, Ii) :: post) T H n Q := fun T H n h => by
        rcases hpair (i, ki, Ii) (by simp) with ⟨oi, oj, hoi, hoj, hap, hcase⟩ | ⟨oi, oj, hoi, hoj, hap, a, inci, b, incj, rfl, rfl, h1, h2⟩
        · rcases hcase with ⟨h1, h2⟩ | ⟨h1, h2, h3, h4⟩ | ⟨h1, h2, ⟨x, hx⟩, h4, h5, h6⟩
          · simp only [h2, Bool.false_eq_true, if_false]
            exact swap_q hoi hoj h1 h2 hap h
          · simp only [h2, if_true]
            have hin' : ki = .m ∨ i ∈ I := by
              rcases hin h2 (i, ki, Ii) (by simp) with h | h | h
              · exact .inl h
              · exact .inr h
              · simp only at h; cases ki <;> simp [DK.isA, DK.isW] at h h1
            cases kj with
            | w inc => exact swap_w hoi hoj h1 hap h3 h4 hin' (fun q hq hne o ho d hd => hlast rfl q hq hne oi o hoi ho d hd) hpan h
            | a key inc => exact swap_a hoi hoj h1 hap h3 h4 hin' (fun q hq hne o ho d hd => hlast rfl q hq hne oi o hoi ho d hd) h
            | m => simp [DK.isW] at h2
            | q => simp [DK.isW] at h2
            | c => simp [DK.isW] at h2
          · subst h2
            simp only [DK.isW, Bool.false_eq_true, if_false]
            cases ki with
            | w inc => exact swap_m hoi hoj hap hx h4 h5 (fun q hq => h6 q (hinc (i, .w inc, Ii) (by simp) ▸ hq)) hpan h
            | a key inc => exact swap_ma hoi hoj hap hx h4 h5 (fun q hq => h6 q (hinc (i, .a key inc, Ii) (by simp) ▸ hq)) h
            | m => simp [DK.isW] at h1
            | q => simp [DK.isW] at h1
            | c => simp [DK.isW] at h1
        · have hIi : Ii = inci := hinc (i, .a a inci, Ii) (by simp)
          subst hIi
          simp only [DK.isW, if_true]
          refine swap_aa hoi hoj hap (fun q hq hne => (h1 q (hII q hq).1 hne).resolve_right fun ha => ?_) h2 h
          obtain ⟨g1, g2⟩ := (hII q hq).2 (i, .a a Ii, Ii) (by simp) ha
          rw [List.map_append, List.mem_append] at g1
          rcases g1 with g1 | g1
          · obtain ⟨p, hp, e⟩ := List.mem_map.1 g1
            have := hlt' p hp
            rw [e] at this
            simp only at g2
            omega
          · simp at g1; exact hne g1
      have h2 := drun_mono_tail hb L T H n h
      obtain ⟨I', hI'⟩ := frontP pos hpan j kj m L (if kj.isW then I.filter (· != i) else I) ((i, ki, Ii) :: post) T H n hLm (fun p hp => hinc p (by simp [hp])) (fun p hp => hpair p (by simp [hp]))
        (fun hw p hp => (hin hw p (by simp [hp])).imp id fun h => h.imp (fun h => by
          rw [if_pos hw]
          exact List.mem_filter.2 ⟨h, by have := hlt' p hp; simp; intro e; rw [e] at this; omega⟩) id)
        (fun q hq => by
          have hqI : q ∈ I := by
            split at hq
            · exact (List.mem_filter.1 hq).1
            · exact hq
          refine ⟨(hII q hqI).1, fun p hp ha => ?_⟩
          obtain ⟨g1, g2⟩ := (hII q hqI).2 p (by simp [hp]) ha
          refine ⟨?_, g2⟩
          rw [List.map_append, List.mem_append] at g1
          rcases g1 with g1 | g1
          · exact g1
          · simp only [List.map_cons, List.map_nil, List.mem_singleton] at g1
            subst g1
            split at hq
            · simp at hq
            · rename_i hw
              exfalso
              have := (hII q hqI).1
              cases kj <;> simp [DK.isW, DK.inc] at hw this) hsortL
        (fun hw q hq p hp hne => by
          rw [if_pos hw] at hq
          obtain ⟨hq1, hq2⟩ := List.mem_filter.1 hq
          rcases hCI hw q hq1 p (by simp [hp]) hne with ⟨h1, h2⟩ | h1
          · rw [List.map_append, List.mem_append] at h2
            rcases h2 with h2 | h2
            · exact .inl ⟨h1, h2⟩
            · simp at h2 hq2; exact absurd h2 hq2
          · exact .inr h1) h2
      exact ⟨I', by rw [List.append_assoc]; exact hI'⟩
structure CheckedP (ops : Array Oper) (N : Nat) (ks : List DK) (ord : List Nat) (pos : Nat → Nat) : Prop where
  mem : ∀ i, i ∈ ord ↔ i < ops.size
  srt : ord.Pairwise fun a b => pos a < pos b
  lin : ∀ i o, ops[i]? = some o → ∀ e ∈ edgesOf o, pos e < pos i
  len : ks.length = ops.size
  edges : ∀ i o, ops[i]? = some o → ∀ e ∈ edgesOf o, e < i
  pair : ∀ i j ki kj, pos i < pos j → ks[i]? = some ki → ks[j]? = some kj → isAnc (ancs [] ops.toList) i j = false → (PairOK ops N i ki j kj ∧ (kj.isW = true → ki = .m ∨ i ∈ kj.inc)) ∨ (PairAA ops i ki j kj ∧ ki.isA = true)
  inc : ∀ j kj, ks[j]? = some kj → ∀ q ∈ kj.inc, (pos q < pos j ∧ q < ops.size) ∧ ∀ p, p < ops.size → pos p < pos j → p ≠ q → isAnc (ancs [] ops.toList) p q = false → apartDst ops p q
theorem dcheckP_spec {ks : List DK} {ord ps : List Nat} (h : dcheckP ops.toList N ks ord ps = true) : CheckedP ops N ks ord (fun i => ps.getD i 0) := by
  unfold dcheckP at h
  simp only [Bool.and_eq_true] at h
  obtain ⟨⟨⟨⟨⟨⟨⟨h1, h2⟩, h3⟩, m1⟩, m2⟩, m3⟩, m4⟩, _⟩ := h
  have hlen : ks.length = ops.size := by simpa using h1
  have hzip : ∀ i o k, ops[i]? = some o → ks[i]? = some k → (ops.toList.zip ks)[i]? = some (o, k) := fun i o k ho hk => by
    rw [List.getElem?_zip_eq_some]; exact ⟨by simpa using ho, hk⟩
  have hop : ∀ (i : Nat) (k : DK), ks[i]? = some k → ∃ o, ops[i]? = some o := fun i k hk => by
    have : i < ks.length := by
      rcases Nat.lt_or_ge i ks.length with h | h
      · exact h
      · rw [List.getElem?_eq_none h] at hk; simp at hk
    exact ⟨ops[i]'(by omega), by simp [Array.getElem?_eq_getElem (show i < ops.size by omega)]⟩
  have hdisj : ∀ {d : Option Tmp} {l : List Nat}, disj d.toList l = true → ∀ x, d = some x → x ∉ l := fun h x hx => disj_spec h (by simp [hx])
  refine ⟨fun i => ?_, pwB_spec m3, fun i o ho e he => ?_, hlen, fun i o ho e he => ?_, fun i j ki kj hij hki hkj hanc => ?_, fun j kj hkj q hq => ?_⟩
  · constructor
    · intro h; have := of_decide_eq_true (List.all_eq_true.1 m1 i h); simpa using this
    · intro h; have := List.all_eq_true.1 m2 i (List.mem_range.2 (by simpa using h)); simpa using this
  · have := List.all_eq_true.1 m4 (o, i) (zipIdx_get _ _ _ (by simpa using ho))
    exact of_decide_eq_true (List.all_eq_true.1 this e he)
  · have := List.all_eq_true.1 h2 (o, i) (zipIdx_get _ _ _ (by simpa using ho))
    exact of_decide_eq_true (List.all_eq_true.1 this e he)
  · obtain ⟨oi, hoi⟩ := hop i ki hki
    obtain ⟨oj, hoj⟩ := hop j kj hkj
    have hj := List.all_eq_true.1 h3 ((oj, kj), j) (zipIdx_get _ _ _ (hzip j oj kj hoj hkj))
    simp only [Bool.and_eq_true] at hj
    have hi := List.all_eq_true.1 hj.2 ((oi, ki), i) (zipIdx_get _ _ _ (hzip i oi ki hoi hki))
    have hij' : decide (ps.getD i 0 < ps.getD j 0) = true := decide_eq_true hij
    simp only [hij', Bool.not_true, hanc, Bool.false_or, Bool.and_eq_true, Bool.or_eq_true] at hi
    rcases hi with hi | hi
    rotate_left
    · right
      unfold pairAA at hi
      split at hi
      · rename_i a inci b incj
        simp only [Bool.and_eq_true] at hi
        obtain ⟨⟨g1, g2⟩, g3⟩ := hi
        refine ⟨⟨oi, oj, hoi, hoj, apartB_spec g1, a, inci, b, incj, rfl, rfl, fun q hq hne => ?_, fun q hq o ho d hd => ?_⟩, rfl⟩
        · have := List.all_eq_true.1 g2 q hq
          simp only [Bool.or_eq_true, beq_iff_eq] at this
          rcases this with (h | h) | h
          · exact absurd h hne
          · left; simpa using h
          · exact .inr h
        · have hn := hdisj g3 d hd
          have : ∀ x, x ∈ looksL ops.toList o ++ o.dst.toList → d ≠ x := fun x hx e => hn (List.mem_flatMap.2 ⟨q, hq, by simp only [Array.getElem?_toList, ho]; rw [e]; exact hx⟩)
          refine ⟨fun hm => ?_, fun e => ?_⟩
          · rw [← looksL_eq] at hm
            exact this d (List.mem_append_left _ hm) rfl
          · exact this d (List.mem_append_right _ (by simp [e])) rfl
      · simp at hi
    left
    obtain ⟨hp, hself⟩ := hi
    unfold pairB at hp
    rw [Bool.and_eq_true] at hp
    obtain ⟨hap, hp⟩ := hp
    have hA := apartB_spec hap
    have hs : ki.isW = false → ∀ d, oi.dst = some d → d ∉ looks (ops := ops) oi := fun hk d hd => by
      rw [hk] at hself
      have := hself.resolve_right (by simp)
      rw [← looksL_eq]; exact hdisj this d hd
    have mres : ki.isW = false → kj.isW = false → PairOK ops N i ki j kj := fun a b => ⟨oi, oj, hoi, hoj, hA, .inl ⟨a, b⟩⟩
    cases kj with
    | a key inc =>
      cases ki with
      | w inc' => simp at hp
      | a key' inc' => simp at hp
      | m => exact ⟨⟨oi, oj, hoi, hoj, hA, .inr (.inl ⟨rfl, rfl, hs rfl, .inl rfl⟩)⟩, fun _ => .inl rfl⟩
      | q =>
        simp only [Bool.and_eq_true, Bool.or_eq_true, Bool.not_eq_true'] at hp
        refine ⟨⟨oi, oj, hoi, hoj, hA, .inr (.inl ⟨rfl, rfl, hs rfl, .inr ?_⟩)⟩, fun _ => .inr (by simpa [DK.inc] using hp.1)⟩
        rcases hp.2 with h | h
        · left; cases hd : oi.dst <;> simp_all
        · right; intro fo args ts e; rw [e] at h; simp [isCallV] at h
      | c =>
        simp only [Bool.and_eq_true, Bool.or_eq_true, Bool.not_eq_true'] at hp
        refine ⟨⟨oi, oj, hoi, hoj, hA, .inr (.inl ⟨rfl, rfl, hs rfl, .inr ?_⟩)⟩, fun _ => .inr (by simpa [DK.inc] using hp.1)⟩
        rcases hp.2 with h | h
        · left; cases hd : oi.dst <;> simp_all
        · right; intro fo args ts e; rw [e] at h; simp [isCallV] at h
    | w inc =>
      cases ki with
      | w inc' => simp at hp
      | a key' inc' => simp at hp
      | m => exact ⟨⟨oi, oj, hoi, hoj, hA, .inr (.inl ⟨rfl, rfl, hs rfl, .inl rfl⟩)⟩, fun _ => .inl rfl⟩
      | q =>
        simp only [Bool.and_eq_true, Bool.or_eq_true, Bool.not_eq_true'] at hp
        refine ⟨⟨oi, oj, hoi, hoj, hA, .inr (.inl ⟨rfl, rfl, hs rfl, .inr ?_⟩)⟩, fun _ => .inr (by simpa [DK.inc] using hp.1)⟩
        rcases hp.2 with h | h
        · left; cases hd : oi.dst <;> simp_all
        · right; intro fo args ts e; rw [e] at h; simp [isCallV] at h
      | c =>
        simp only [Bool.and_eq_true, Bool.or_eq_true, Bool.not_eq_true'] at hp
        refine ⟨⟨oi, oj, hoi, hoj, hA, .inr (.inl ⟨rfl, rfl, hs rfl, .inr ?_⟩)⟩, fun _ => .inr (by simpa [DK.inc] using hp.1)⟩
        rcases hp.2 with h | h
        · left; cases hd : oi.dst <;> simp_all
        · right; intro fo args ts e; rw [e] at h; simp [isCallV] at h
    | m =>
      cases ki with
      | w inc' =>
        simp only [Bool.and_eq_true] at hp
        obtain ⟨⟨⟨p1, p2⟩, p3⟩, p4⟩ := hp
        refine ⟨⟨oi, oj, hoi, hoj, hA, .inr (.inr ⟨rfl, rfl, ?_, ?_, ?_, fun q hq o ho d hd => ?_⟩)⟩, fun h => by simp [DK.isW] at h⟩
        · unfold isMove at p1; split at p1
          · rename_i x e; exact ⟨x, e⟩
          · simp at p1
        · simpa using p2
        · cases hd : oj.dst with
          | none => trivial
          | some d => rw [hd] at p3; show d < N; exact of_decide_eq_true p3
        · have hn := hdisj p4 d hd
          have : ∀ x, x ∈ looksL ops.toList o ++ o.dst.toList → d ≠ x := fun x hx e => hn (List.mem_flatMap.2 ⟨q, hq, by simp only [Array.getElem?_toList, ho]; rw [e]; exact hx⟩)
          refine ⟨fun hm => ?_, fun e => ?_⟩
          · rw [← looksL_eq] at hm
            exact this d (List.mem_append_left _ hm) rfl
          · exact this d (List.mem_append_right _ (by simp [e])) rfl
      | a key' inc' =>
        simp only [Bool.and_eq_true] at hp
        obtain ⟨⟨⟨p1, p2⟩, p3⟩, p4⟩ := hp
        refine ⟨⟨oi, oj, hoi, hoj, hA, .inr (.inr ⟨rfl, rfl, ?_, ?_, ?_, fun q hq o ho d hd => ?_⟩)⟩, fun h => by simp [DK.isW] at h⟩
        · unfold isMove at p1; split at p1
          · rename_i x e; exact ⟨x, e⟩
          · simp at p1
        · simpa using p2
        · cases hd : oj.dst with
          | none => trivial
          | some d => rw [hd] at p3; show d < N; exact of_decide_eq_true p3
        · have hn := hdisj p4 d hd
          have : ∀ x, x ∈ looksL ops.toList o ++ o.dst.toList → d ≠ x := fun x hx e => hn (List.mem_flatMap.2 ⟨q, hq, by simp only [Array.getElem?_toList, ho]; rw [e]; exact hx⟩)
          refine ⟨fun hm => ?_, fun e => ?_⟩
          · rw [← looksL_eq] at hm
            exact this d (List.mem_append_left _ hm) rfl
          · exact this d (List.mem_append_right _ (by simp [e])) rfl
      | m => exact ⟨mres rfl rfl, fun h => by simp [DK.isW] at h⟩
      | q => exact ⟨mres rfl rfl, fun h => by simp [DK.isW] at h⟩
      | c => exact ⟨mres rfl rfl, fun h => by simp [DK.isW] at h⟩
    | q =>
      cases ki with
      | w inc' => simp at hp
      | a key' inc' => simp at hp
      | m => exact ⟨mres rfl rfl, fun h => by simp [DK.isW] at h⟩
      | q => exact ⟨mres rfl rfl, fun h => by simp [DK.isW] at h⟩
      | c => exact ⟨mres rfl rfl, fun h => by simp [DK.isW] at h⟩
    | c =>
      cases ki with
      | w inc' => simp at hp
      | a key' inc' => simp at hp
      | m => exact ⟨mres rfl rfl, fun h => by simp [DK.isW] at h⟩
      | q => exact ⟨mres rfl rfl, fun h => by simp [DK.isW] at h⟩
      | c => exact ⟨mres rfl rfl, fun h => by simp [DK.isW] at h⟩
  · obtain ⟨oj, hoj⟩ := hop j kj hkj
    have hj := List.all_eq_true.1 h3 ((oj, kj), j) (zipIdx_get _ _ _ (hzip j oj kj hoj hkj))
    simp only [Bool.and_eq_true] at hj
    cases kj with
    | m => simp [DK.inc] at hq
    | q => simp [DK.inc] at hq
    | c => simp [DK.inc] at hq
    | w inc =>
      have hb := List.all_eq_true.1 hj.1 q hq
      unfold incP at hb
      split at hb
      · simp at hb
      · rename_i oq hoq
        simp only [Bool.and_eq_true] at hb
        obtain ⟨⟨b1, b2⟩, b3⟩ := hb
        refine ⟨⟨of_decide_eq_true b1, by
          rcases Nat.lt_or_ge q ops.size with h9 | h9
          · exact h9
          · rw [Array.getElem?_toList, Array.getElem?_eq_none h9] at hoq; cases hoq⟩, fun p hps hp hne hanc op oq' hop hoq' d hd => ?_⟩
        have hoq2 : oq' = oq := by
          rw [Array.getElem?_toList] at hoq
          rw [hoq'] at hoq; exact Option.some.inj hoq
        subst hoq2
        have := List.all_eq_true.1 b3 p (List.mem_range.2 (by simpa using hps))
        have hp' : decide (ps.getD p 0 < ps.getD j 0) = true := decide_eq_true hp
        simp only [hp', Bool.not_true, Bool.false_or, hanc, Bool.or_false, Bool.or_eq_true, beq_iff_eq, Array.getElem?_toList, hop] at this
        have h5 := this.resolve_left hne
        have hn := hdisj h5 d hd
        refine ⟨fun hm => hn (List.mem_append_left _ (by rw [looksL_eq]; exact hm)), fun e => hn (List.mem_append_right _ (by simp [e]))⟩
    | a key inc =>
      have hb := List.all_eq_true.1 hj.1 q hq
      unfold incP at hb
      split at hb
      · simp at hb
      · rename_i oq hoq
        simp only [Bool.and_eq_true] at hb
        obtain ⟨⟨b1, b2⟩, b3⟩ := hb
        refine ⟨⟨of_decide_eq_true b1, by
          rcases Nat.lt_or_ge q ops.size with h9 | h9
          · exact h9
          · rw [Array.getElem?_toList, Array.getElem?_eq_none h9] at hoq; cases hoq⟩, fun p hps hp hne hanc op oq' hop hoq' d hd => ?_⟩
        have hoq2 : oq' = oq := by
          rw [Array.getElem?_toList] at hoq
          rw [hoq'] at hoq; exact Option.some.inj hoq
        subst hoq2
        have := List.all_eq_true.1 b3 p (List.mem_range.2 (by simpa using hps))
        have hp' : decide (ps.getD p 0 < ps.getD j 0) = true := decide_eq_true hp
        simp only [hp', Bool.not_true, Bool.false_or, hanc, Bool.or_false, Bool.or_eq_true, beq_iff_eq, Array.getElem?_toList, hop] at this
        have h5 := this.resolve_left hne
        have hn := hdisj h5 d hd
        refine ⟨fun hm => hn (List.mem_append_left _ (by rw [looksL_eq]; exact hm)), fun e => hn (List.mem_append_right _ (by simp [e]))⟩
theorem anc_listedP {ks : List DK} {ord : List Nat} {pos : Nat → Nat} (hc : CheckedP ops N ks ord pos) {listed : Array Bool} (hcl : ∀ i o, ops[i]? = some o → listed.getD i true = true → ∀ e ∈ edgesOf o, listed.getD e true = true)
    (i : Nat) (o : Oper) (ho : ops[i]? = some o) (hi : ∀ e ∈ edgesOf o, listed.getD e true = true) (p : Nat) (hp : isAnc (ancs [] ops.toList) p i = true) : listed.getD p true = true := by
  induction i using Nat.strongRecOn generalizing o with
  | _ i ih =>
    obtain ⟨e, he, h⟩ := ancs_spec ops.toList [] i o (by simpa using ho) (by simpa using hc.edges i o ho) p (by simpa [isAnc] using hp)
    rcases h with rfl | h
    · exact hi _ he
    · have hlt := hc.edges i o ho e he
      have hsz : i < ops.size := by
        rcases Nat.lt_or_ge i ops.size with h | h
        · exact h
        · rw [Array.getElem?_eq_none h] at ho; simp at ho
      have hoe : ops[e]? = some (ops[e]'(by omega)) := Array.getElem?_eq_getElem (by omega)
      exact ih e hlt _ hoe (hcl e _ hoe (hi e he)) (by simpa [isAnc] using h)
def restP (ord : List Nat) (listed : Array Bool) : List Nat := ord.filter fun i => !listed.getD i true
theorem ready_eqP {ks : List DK} {ord : List Nat} {pos : Nat → Nat} (hc : CheckedP ops N ks ord pos) (listed : Array Bool) (hsz : listed.size = ops.size) (i : Nat) : i ∈ Region.ready .any ops listed ↔ i < ops.size ∧ listed.getD i true = false ∧ ∀ o, ops[i]? = some o → ∀ e ∈ edgesOf o, listed.getD e true = true := by
  unfold Region.ready
  rw [List.mem_filter, List.mem_range]
  refine and_congr_right fun hi => ?_
  have hoi : ops[i]? = some ops[i] := Array.getElem?_eq_getElem hi
  have hdef : ∀ e ∈ edgesOf ops[i], listed.getD e false = listed.getD e true := fun e he => by
    have := hc.edges i _ hoi e he
    simp [show e < listed.size by omega]
  rw [hoi]
  simp only [Option.map_some, Option.getD_some, Bool.and_eq_true, Bool.not_eq_true', Option.some.injEq]
  refine and_congr_right fun _ => ?_
  constructor
  · rintro h o rfl e he
    unfold edgesOf at he
    obtain ⟨ed, hed, rfl⟩ := List.mem_map.1 he
    obtain ⟨hm, hbind⟩ := List.mem_filter.1 hed
    have := Array.all_eq_true_iff_forall_mem.1 h ed (by simpa using hm)
    rw [← hdef ed.on (List.mem_map.2 ⟨ed, List.mem_filter.2 ⟨hm, hbind⟩, rfl⟩)]
    simpa [hbind] using this
  · intro h
    rw [Array.all_eq_true_iff_forall_mem]
    intro ed hm
    cases hb : Region.binds .any ed with
    | false => simp
    | true =>
      have hin : ed.on ∈ edgesOf ops[i] := List.mem_map.2 ⟨ed, List.mem_filter.2 ⟨by simpa using hm, hb⟩, rfl⟩
      rw [hdef _ hin]
      simpa using h _ rfl ed.on hin
theorem drun_anyP {ks : List DK} {ord : List Nat} {pos : Nat → Nat} (hc : CheckedP ops N ks ord pos) {Q : AEx → (Nat → AV) → Heap → Nat → Prop} (hpan : ∀ p T T' H n, Q (.pan p) T H n → Q (.pan p) T' H n) {ds : List Deferred} {c0 : Ctx} {H0 : Heap} {w0 : World} :
    ∀ (fuel : Nat) (listed : Array Bool), listed.size = ops.size → (restP ord listed).length = fuel → (∀ i o, ops[i]? = some o → listed.getD i true = true → ∀ e ∈ edgesOf o, listed.getD e true = true) →
      ∀ (c : Ctx) (w : World) (a : Act) (T : Nat → AV) (H : Heap) (n : Nat), Step c0 H0 w0 c H n w → RelTmps c T a.tmps → a.tmps.size = N → a.defers = ds →
        drun P z N ops ((restP ord listed).map (item ks)) T H n Q → wpAny P .any ops (APost N ds c0 H0 w0 Q) fuel listed a w
  | 0, listed, hsz, hlen, hcl, c, w, a, T, H, n, hst, hr, hN, hd, h => by
    have hnil : restP ord listed = [] := List.length_eq_zero_iff.1 hlen
    rw [hnil] at h
    refine ⟨?_, .normal, c, T, H, n, h, trivial, hst, hr, hN, hd⟩
    rw [List.eq_nil_iff_forall_not_mem]
    intro i hi
    obtain ⟨h1, h2, _⟩ := (ready_eqP hc listed hsz i).1 hi
    have : i ∈ restP ord listed := List.mem_filter.2 ⟨(hc.mem i).2 h1, by simp only [h2]; rfl⟩
    rw [hnil] at this; simp at this
  | fuel + 1, listed, hsz, hlen, hcl, c, w, a, T, H, n, hst, hr, hN, hd, h => by
    have hmem : ∀ i, i ∈ restP ord listed ↔ i < ops.size ∧ listed.getD i true = false := fun i => by
      unfold restP; rw [List.mem_filter, hc.mem]; simp
    have hsorted : (restP ord listed).Pairwise (fun a b => pos a < pos b) := List.Pairwise.filter _ hc.srt
    refine ⟨fun hnone => ?_, fun i hi => ?_⟩
    · -- the first that is left is ready
      exfalso
      cases hrest : restP ord listed with
      | nil => rw [hrest] at hlen; simp at hlen
      | cons i l =>
        obtain ⟨h1, h2⟩ := (hmem i).1 (by rw [hrest]; simp)
        have hready : i ∈ Region.ready .any ops listed := (ready_eqP hc listed hsz i).2 ⟨h1, h2, fun o ho e he => by
          have hlt := hc.lin i o ho e he
          have hlt2 := hc.edges i o ho e he
          cases hle : listed.getD e true with
          | true => rfl
          | false =>
            have : e ∈ restP ord listed := (hmem e).2 ⟨by omega, hle⟩
            rw [hrest] at this hsorted
            rcases List.mem_cons.1 this with e1 | e1
            · subst e1; omega
            · have := (List.pairwise_cons.1 hsorted).1 e e1; omega⟩
        rw [hnone] at hready; simp at hready
    · obtain ⟨h1, h2, h3⟩ := (ready_eqP hc listed hsz i).1 hi
      have hin : i ∈ restP ord listed := (hmem i).2 ⟨h1, h2⟩
      obtain ⟨pre, post, hsplit⟩ := List.append_of_mem hin
      have hoi : ops[i]? = some ops[i] := Array.getElem?_eq_getElem h1
      have hks : ∀ p, p < ops.size → ks[p]? = some (ks.getD p .m) := fun p hp => by
        have : p < ks.length := by rw [hc.len]; exact hp
        simp [List.getD, List.getElem?_eq_getElem this]
      rw [hsplit] at hsorted
      have hsort2 := List.pairwise_append.1 hsorted
      have hpre : ∀ p ∈ pre, pos p < pos i ∧ p < ops.size ∧ listed.getD p true = false := fun p hp => by
        have hpr : p ∈ restP ord listed := by rw [hsplit]; simp [hp]
        exact ⟨hsort2.2.2 p hp i (by simp), (hmem p).1 hpr⟩
      have hnanc : ∀ p ∈ pre, isAnc (ancs [] ops.toList) p i = false := fun p hp => by
        cases hh : isAnc (ancs [] ops.toList) p i with
        | false => rfl
        | true =>
          have := anc_listedP hc hcl i _ hoi (h3 _ hoi) p hh
          rw [(hpre p hp).2.2] at this; simp at this
      have hpairs : ∀ p ∈ pre, (PairOK ops N p (ks.getD p .m) i (ks.getD i .m) ∧ ((ks.getD i .m).isW = true → ks.getD p .m = .m ∨ p ∈ (ks.getD i .m).inc)) ∨ (PairAA ops p (ks.getD p .m) i (ks.getD i .m) ∧ (ks.getD p .m).isA = true) := fun p hp =>
        hc.pair p i _ _ (hpre p hp).1 (hks p (hpre p hp).2.1) (hks i h1) (hnanc p hp)
      have hanl : ∀ q ∈ (ks.getD i .m).inc, ∀ x ∈ pre, isAnc (ancs [] ops.toList) x q = true → pos x < pos q ∧ q ∈ (pre.map (item ks)).map (·.1) := fun q hq x hx hh => by
        obtain ⟨hqi, hqa⟩ := hc.inc i _ (hks i h1) q hq
        have hqs : q < ops.size := hqi.2
        have hqi := hqi.1
        have hoq : ops[q]? = some ops[q] := Array.getElem?_eq_getElem hqs
        have hql : listed.getD q true = false := by
          cases hl : listed.getD q true with
          | false => rfl
          | true =>
            have := anc_listedP hc hcl q _ hoq (hcl q _ hoq hl) x hh
            rw [(hpre x hx).2.2] at this; simp at this
        have hqr : q ∈ restP ord listed := (hmem q).2 ⟨hqs, hql⟩
        have hqpre : q ∈ pre := by
          rw [hsplit] at hqr
          rcases List.mem_append.1 hqr with h | h
          · exact h
          · rcases List.mem_cons.1 h with h | h
            · subst h; omega
            · have := (List.pairwise_cons.1 hsort2.2.1).1 q h; omega
        refine ⟨?_, List.mem_map.2 ⟨item ks q, List.mem_map.2 ⟨q, hqpre, rfl⟩, rfl⟩⟩
        have : ∀ (q : Nat) (o : Oper), ops[q]? = some o → ∀ x, isAnc (ancs [] ops.toList) x q = true → pos x < pos q := by
          intro q
          induction q using Nat.strongRecOn with
          | _ q ih =>
            intro o ho x hx
            obtain ⟨e, he, h⟩ := ancs_spec ops.toList [] q o (by simpa using ho) (by simpa using hc.edges q o ho) x (by simpa [isAnc] using hx)
            have hlt := hc.edges q o ho e he
            have hlt3 := hc.lin q o ho e he
            rcases h with rfl | h
            · exact hlt3
            · have hqs' : q < ops.size := by
                rcases Nat.lt_or_ge q ops.size with h | h
                · exact h
                · rw [Array.getElem?_eq_none h] at ho; simp at ho
              have := ih e hlt _ (Array.getElem?_eq_getElem (show e < ops.size by omega)) x (by simpa [isAnc] using h)
              omega
        exact this q _ hoq x hh
      rw [hsplit, List.map_append, List.map_cons] at h
      obtain ⟨I', hstep⟩ := frontP pos hpan i (ks.getD i .m) (pre.map (item ks)).length (pre.map (item ks)) (ks.getD i .m).inc (post.map (item ks)) T H n rfl
        (fun p hp => by obtain ⟨x, hx, rfl⟩ := List.mem_map.1 hp; rfl)
        (fun p hp => by obtain ⟨x, hx, rfl⟩ := List.mem_map.1 hp; exact (hpairs x hx).imp (·.1) (·.1))
        (fun hw p hp => by
          obtain ⟨x, hx, rfl⟩ := List.mem_map.1 hp
          rcases hpairs x hx with h | h
          · exact (h.2 hw).imp id .inl
          · exact .inr (.inr h.2))
        (fun q hq => ⟨hq, fun p hp ha => by obtain ⟨x, hx, rfl⟩ := List.mem_map.1 hp; exact ⟨(hanl q hq x hx ha).2, (hanl q hq x hx ha).1⟩⟩)
        (by
          have e : (pre.map (item ks)).map (·.1) = pre := by simp [item, Function.comp_def]
          rw [e]; exact hsort2.1)
        (fun hw q hq p hp hne => by
          obtain ⟨x, hx, rfl⟩ := List.mem_map.1 hp
          simp only [item] at hne ⊢
          obtain ⟨hqi, hqa⟩ := hc.inc i _ (hks i h1) q hq
          cases hh : isAnc (ancs [] ops.toList) x q with
          | false => exact .inr (hqa x (hpre x hx).2.1 (hpre x hx).1 hne hh)
          | true => exact .inl (hanl q hq x hx hh)) h
      refine dstep_sound hstep hst hr hN hd fun T' c' H' n' a' w' hK hst' hr' hN' hd' => ?_
      have hget : ∀ k, (listed.setIfInBounds i true).getD k true = if k = i then true else listed.getD k true := fun k => by
        simp only [Array.getD_eq_getD_getElem?, Array.getElem?_setIfInBounds]
        by_cases e : k = i
        · subst e; simp [hsz, h1]
        · simp [Ne.symm e, e]
      have hrest' : restP ord (listed.setIfInBounds i true) = pre ++ post := by
        have e1 : restP ord (listed.setIfInBounds i true) = (restP ord listed).filter (· != i) := by
          unfold restP
          rw [List.filter_filter]
          apply List.filter_congr
          intro k _
          rw [hget]
          by_cases e : k = i <;> simp [e]
        rw [e1, hsplit, List.filter_append, List.filter_cons]
        have ep : pre.filter (· != i) = pre := List.filter_eq_self.2 fun p hp => by have := (hpre p hp).1; simp; intro e; rw [e] at this; omega
        have eq : post.filter (· != i) = post := List.filter_eq_self.2 fun p hp => by have := (List.pairwise_cons.1 hsort2.2.1).1 p hp; simp; intro e; rw [e] at this; omega
        simp [ep, eq]
      have hlen' : (restP ord (listed.setIfInBounds i true)).length = fuel := by
        rw [hrest']
        rw [hsplit] at hlen
        simp at hlen ⊢; omega
      refine drun_anyP hc hpan fuel _ (by simp [hsz]) hlen' (fun k o ho hk e he => ?_) c' w' a' T' H' n' hst' hr' hN' hd' ?_
      · rw [hget] at hk ⊢
        split
        · rfl
        · by_cases ek : k = i
          · subst ek
            exact h3 o ho e he
          · rw [if_neg ek] at hk
            exact hcl k o ho hk e he
      · rw [hrest', List.map_append]
        exact hK
theorem awp_drawP {id : Nat} {l : List Oper} {y : Code} {T : Nat → AV} {H : Heap} {n : Nat} {Q : AEx → (Nat → AV) → Heap → Nat → Prop} (hm : P.follows .mixedOrders = true) (z : TypeId → AV) (live : List Nat) (ks : List DK) (ord ps : List Nat)
    (hc : dcheckP l N ks ord ps = true) (hpan : ∀ p T T' H n, Q (.pan p) T H n → Q (.pan p) T' H n)
    (h : ∀ K : (Nat → AV) → Heap → Nat → Prop, (∀ T H n, awp P N y T H n Q → K T H n) → drun P z N l.toArray (ord.map (item ks)) T H n (AThen (fun T' H' n' => K (tsel live T') H' n') Q)) :
    awp P N (.seq (.region id l.toArray true) y) T H n Q := by
  refine awp_seq (Q := Q) ?_
  intro c w a hs hr hN ds hd
  refine wp_region_any hm ?_
  have hst : Step c H w c H n { w with drawn := w.drawn + 1 } := Step.drew hs
  have hcc := dcheckP_spec (ops := l.toArray) (N := N) (ks := ks) (ord := ord) (ps := ps) (by simpa using hc)
  have hrest : restP ord (Array.replicate l.toArray.size false) = ord := by
    unfold restP
    rw [List.filter_eq_self.2]
    intro i hi
    have hi : i < l.length := by simpa using (hcc.mem i).1 hi
    simp [hi]
  have hol : ord.length = l.toArray.size := by unfold dcheckP at hc; simp only [Bool.and_eq_true, beq_iff_eq] at hc; simpa using hc.2
  rw [← hol]
  refine drun_anyP (P := P) (z := z) (Q := AThen (fun T H n => awp P N y T H n Q) Q) (ops := l.toArray) hcc (fun p T T' H n hq => hpan p T T' H n hq) ord.length (Array.replicate ord.length false) (by simpa using hol) (by rw [hol, hrest]; exact hol) ?_ c _ a T H n hst hr hN hd ?_
  · intro i o ho hi
    have : i < l.length := by
      rcases Nat.lt_or_ge i l.length with h | h
      · exact h
      · rw [List.getElem?_toArray, List.getElem?_eq_none h] at ho; simp at ho
    simp [this, hol] at hi
  · rw [hol, hrest]
    have := h (fun T' H' n' => awp P N y T' H' n' Q) (fun _ _ _ h => h)
    have mono : ∀ (its : List (Nat × DK × List Nat)) (T : Nat → AV) (H : Heap) (n : Nat), drun P z N l.toArray its T H n (AThen (fun T' H' n' => awp P N y (tsel live T') H' n' Q) Q) →
        drun P z N l.toArray its T H n (AThen (fun T' H' n' => awp P N y T' H' n' Q) Q) := by
      intro its
      induction its with
      | nil => intro T H n hh; exact awp_sel live hh
      | cons it its ih => intro T H n hh; obtain ⟨i, k, I⟩ := it; exact dstep_mono2 (fun T H n h => ih T H n h) (fun p T H n h => h) hh
    exact mono _ _ _ _ this
theorem awp_drawP0 {id : Nat} {l : List Oper} {T : Nat → AV} {H : Heap} {n : Nat} {Q : AEx → (Nat → AV) → Heap → Nat → Prop} (hm : P.follows .mixedOrders = true) (z : TypeId → AV) (ks : List DK) (ord ps : List Nat)
    (hc : dcheckP l N ks ord ps = true) (hpan : ∀ p T T' H n, Q (.pan p) T H n → Q (.pan p) T' H n)
    (h : drun P z N l.toArray (ord.map (item ks)) T H n Q) :
    awp P N (.region id l.toArray true) T H n Q := by
  intro c w a hs hr hN ds hd
  refine wp_region_any hm ?_
  have hst : Step c H w c H n { w with drawn := w.drawn + 1 } := Step.drew hs
  have hcc := dcheckP_spec (ops := l.toArray) (N := N) (ks := ks) (ord := ord) (ps := ps) (by simpa using hc)
  have hrest : restP ord (Array.replicate l.toArray.size false) = ord := by
    unfold restP
    rw [List.filter_eq_self.2]
    intro i hi
    have hi : i < l.length := by simpa using (hcc.mem i).1 hi
    simp [hi]
  have hol : ord.length = l.toArray.size := by unfold dcheckP at hc; simp only [Bool.and_eq_true, beq_iff_eq] at hc; simpa using hc.2
  rw [← hol]
  refine drun_anyP (P := P) (z := z) (Q := Q) (ops := l.toArray) hcc hpan ord.length (Array.replicate ord.length false) (by simpa using hol) (by rw [hol, hrest]; exact hol) ?_ c _ a T H n hst hr hN hd ?_
  · intro i o ho hi
    have : i < l.length := by
      rcases Nat.lt_or_ge i l.length with h | h
      · exact h
      · rw [List.getElem?_toArray, List.getElem?_eq_none h] at ho; simp at ho
    simp [this, hol] at hi
  · rw [hol, hrest]; exact h
end
def dkAt : List DK → Nat → Option DK
  | [], _ => none
  | k :: _, 0 => some k
  | _ :: l, i + 1 => dkAt l i
theorem dkAt_eq (l : List DK) (k : Nat) : dkAt l k = l[k]? := by
  induction l generalizing k with
  | nil => rfl
  | cons a l ih => cases k with
    | zero => rfl
    | succ k => simp [dkAt, ih]
def opk1 : Option Oper → Option DK → List (Oper × DK) → List (Oper × DK)
  | some o, some k, r => (o, k) :: r
  | _, _, r => r
def opkL (l : List Oper) (ks : List DK) : List Nat → List (Oper × DK)
  | [] => []
  | i :: is => opk1 (opAt l i) (dkAt ks i) (opkL l ks is)
theorem dr_drunP {P : Program} {z : TypeId → AV} {N : Nat} {l : List Oper} {ks : List DK} {Q : AEx → (Nat → AV) → Heap → Nat → Prop} (hl : ks.length = l.length) :
    ∀ (ord : List Nat) (T : Nat → AV) (H : Heap) (n : Nat), (∀ i ∈ ord, i < l.length) → dr P z N l (opkL l ks ord) T H n Q → drun P z N l.toArray (ord.map (item ks)) T H n Q
  | [], T, H, n, hk, h => h
  | k :: ord, T, H, n, hk, h => by
    have h1 : k < l.length := hk k (by simp)
    have h2 : k < ks.length := by omega
    have hlk : l[k]? = some l[k] := List.getElem?_eq_getElem h1
    rw [opkL, opAt_eq, dkAt_eq, hlk, List.getElem?_eq_getElem h2, opk1] at h
    have ih := fun (T : Nat → AV) (H : Heap) (n : Nat) => dr_drunP (P := P) (z := z) (N := N) (ks := ks) (Q := Q) hl ord T H n (fun i hi => hk i (by simp [hi]))
    rw [List.map_cons]
    have ei : item ks k = (k, ks[k], ks[k].inc) := by simp [item, List.getD, List.getElem?_eq_getElem h2]
    rw [ei]
    show dstep P z N l.toArray k ks[k] ks[k].inc T H n _ Q
    unfold dstep
    simp only [List.getElem?_toArray, hlk]
    generalize l[k] = o at h ⊢
    generalize ks[k] = kd at h ⊢
    obtain ⟨dst, op, ty, pos, after, guard⟩ := o
    cases guard with
    | none =>
      unfold dr at h
      refine ⟨h.1, ?_⟩
      have h := h.2
      cases kd with
      | m =>
        simp only [gvO, contB, putG] at h ⊢
        split
        · exact ih _ _ _ h
        · rename_i hne; split at h
          · exact (hne _ rfl).elim
          · exact h
      | q =>
        simp only [gvO, contB, putG] at h ⊢
        cases hq : opQ P z H true T op with
        | none => rw [hq] at h; exact h.elim
        | some p => rw [hq] at h; exact ⟨fun _ => h.1, ih _ _ _ h.2⟩
      | c =>
        simp only [gvO, contB, putG] at h ⊢
        split
        · rename_i fo args ts; obtain ⟨r, h1, h2⟩ := h; exact ⟨r, fun _ => h1 rfl, ih _ _ _ h2⟩
        · rename_i hne; split at h
          · exact (hne _ _ _ rfl).elim
          · exact h
      | w inc =>
        simp only [DK.inc] at h ⊢
        refine ⟨trivial, ?_⟩
        split
        · rename_i fo args ts
          exact callK_mono (fun r H n hr => ⟨sames_all hr.1, ih _ _ _ hr.2⟩) h
        · rename_i hne
          split at h
          · rename_i fo args ts; exact (hne _ _ _ rfl).elim
          · cases hw : opW P z H n T op with
            | none => rw [hw] at h; exact h.elim
            | some p => rw [hw] at h; exact ⟨h.1, sames_all h.2.1, ih _ _ _ h.2.2⟩
      | a key inc =>
        simp only [DK.inc] at h ⊢
        refine ⟨trivial, ?_⟩
        cases hw : opA P z H key n T op with
        | none => rw [hw] at h; exact h.elim
        | some p => rw [hw] at h; exact ⟨h.1, fun q hq H2 hag => sames_all (h.2.1 H2 hag) q hq, ih _ _ _ h.2.2⟩
    | some jb =>
      obtain ⟨j, b⟩ := jb
      unfold dr at h
      refine ⟨h.1, ?_⟩
      have h := h.2
      have hgv : gvO l.toArray T ⟨dst, op, ty, pos, after, some (j, b)⟩ = (gtmp l.toArray j).bind fun t => gval (T t) b := rfl
      cases hg : (gtmp l.toArray j).bind fun t => gval (T t) b with
      | none => rw [hg] at h; exact h.elim
      | some g =>
        rw [hg] at h
        simp only [contB] at h
        cases kd with
        | m =>
          simp only [hgv, hg, contB, putG] at h ⊢
          split
          · exact ih _ _ _ h
          · rename_i hne; split at h
            · exact (hne _ rfl).elim
            · exact h
        | q =>
          simp only [hgv, hg, contB, putG] at h ⊢
          cases hq : opQ P z H g T op with
          | none => rw [hq] at h; exact ⟨h.1, ih _ _ _ h.2⟩
          | some p => rw [hq] at h; exact ⟨h.1, ih _ _ _ h.2⟩
        | c =>
          simp only [hgv, hg, contB, putG] at h ⊢
          split
          · rename_i fo args ts; obtain ⟨r, h1, h2⟩ := h; exact ⟨r, h1, ih _ _ _ h2⟩
          · rename_i hne; split at h
            · rename_i fo args ts; exact (hne _ _ _ rfl).elim
            · exact h
        | w inc => exact h.elim
        | a key inc => exact h.elim
theorem awp_drp {P : Program} {N id : Nat} {l : List Oper} {y : Code} {T : Nat → AV} {H : Heap} {n : Nat} {Q : AEx → (Nat → AV) → Heap → Nat → Prop} (hm : P.follows .mixedOrders = true) (z : TypeId → AV) (live : List Nat) (ks : List DK) (ord ps : List Nat)
    (hc : dcheckP l N ks ord ps = true) (hpan : ∀ p T T' H n, Q (.pan p) T H n → Q (.pan p) T' H n)
    (h : ∀ K : (Nat → AV) → Heap → Nat → Prop, (∀ T H n, awp P N y T H n Q → K T H n) → dr P z N l (opkL l ks ord) T H n (AThen (fun T' H' n' => K (tsel live T') H' n') Q)) :
    awp P N (.seq (.region id l.toArray true) y) T H n Q :=
  awp_drawP hm z live ks ord ps hc hpan fun K hK => by
    have hcc := dcheckP_spec (ops := l.toArray) (N := N) (ks := ks) (ord := ord) (ps := ps) (by simpa using hc)
    exact dr_drunP (by simpa using hcc.len) ord T H n (fun i hi => by simpa using (hcc.mem i).1 hi) (by simpa using h K hK)
theorem awp_drp1 {P : Program} {N id : Nat} {l : List Oper} {T : Nat → AV} {H : Heap} {n : Nat} {Q : AEx → (Nat → AV) → Heap → Nat → Prop} (hm : P.follows .mixedOrders = true) (z : TypeId → AV) (live : List Nat) (ks : List DK) (ord ps : List Nat)
    (hc : dcheckP l N ks ord ps = true) (hpan : ∀ p T T' H n, Q (.pan p) T H n → Q (.pan p) T' H n)
    (h : ∀ K : (Nat → AV) → Heap → Nat → Prop, (∀ T H n, Q .normal T H n → K T H n) → dr P z N l (opkL l ks ord) T H n (AThen (fun T' H' n' => K (tsel live T') H' n') Q)) :
    awp P N (.region id l.toArray true) T H n Q :=
  awp_postsel live <| awp_drawP0 hm z ks ord ps hc (fun p T T' H n hq => hpan p T T' H n hq) (by
    have hcc := dcheckP_spec (ops := l.toArray) (N := N) (ks := ks) (ord := ord) (ps := ps) (by simpa using hc)
    exact dr_drunP (by simpa using hcc.len) ord T H n (fun i hi => by simpa using (hcc.mem i).1 hi) (by simpa using h (fun T' H' n' => Q .normal T' H' n') (fun _ _ _ h => h)))
attribute [go_sem] opkL.eq_1 opkL.eq_2 opk1.eq_1 dkAt.eq_1 dkAt.eq_2 dkAt.eq_3
end Go.Sx
namespace Go.Sx
open Go
theorem awp_lay {P : Program} {N : Nat} {code : Code} {T : Nat → AV} {H : Heap} {n : Nat} {Q : AEx → (Nat → AV) → Heap → Nat → Prop} (esz : Nat)
    (h : awp P N code T (H.put n (some (.arr 0 esz []))) (n + 1) Q) : awp P N code T H n Q :=
  awp_ghost (fun c w tmps hs hr => ⟨_, Step.newNil hs esz, RelTmps.mono (Step.newNil hs esz).le hr⟩) h
theorem AgreeR.at {H H2 : Heap} (h : AgreeR H H2) (k : Nat) (hk : ∀ e, H k ≠ some (.arr 0 e [])) : H2 k = H k := (h k).resolve_left fun ⟨e, he⟩ => hk e he
end Go.Sx
namespace Go.Sx
open Go
theorem AdpL.relT {n : Nat} {c : Ctx} (hl : c.ρ n 0 = some .nil) : ∀ {l m : List AV} {cs : List Value}, AdpL n l m → RelT c l cs → RelT c m cs
  | [], [], _, _, h => h
  | a :: l, b :: m, cs, hw, h => by
    simp only [RelT] at h ⊢
    obtain ⟨v, r, e, h1, h2⟩ := h
    exact ⟨v, r, e, hw.1.2 c false _ hl h1, AdpL.relT hl hw.2 h2⟩
  | [], _ :: _, _, hw, _ => hw.elim
  | _ :: _, [], _, hw, _ => hw.elim
theorem Adp.tup {n : Nat} {l m : List AV} (h : AdpL n l m) : Adp n (.tup l) (.tup m) := by
  refine ⟨rfl, fun c m' cs hl hr => ?_⟩
  cases m' with
  | true => simp only [Rel] at hr
  | false =>
    simp only [Rel] at hr ⊢
    obtain ⟨arr, e, h1⟩ := hr
    exact ⟨arr, e, h.relT hl h1⟩
theorem ACalls.adopt {P : Program} {f : FuncId} {args : List AV} {H : Heap} {n : Nat} {K K' : ARes → Heap → Nat → Prop} (h : ACalls P f args H n K)
    (hK : ∀ res H1 n1, K res H1 n1 → K' res H1 n1 ∨ ∃ r r' esz, res = .val r ∧ Adp n1 r r' ∧ K' (.val r') (H1.put n1 (some (.arr 0 esz []))) (n1 + 1)) : ACalls P f args H n K' := by
  intro c w vs hs hr
  refine (h c w vs hs hr).mono ?_
  rintro e w' ⟨res, c', H', n', hk, hst, hm⟩
  rcases hK _ _ _ hk with h1 | ⟨r, r', esz, rfl, ha, h1⟩
  · exact ⟨res, c', H', n', h1, hst, hm⟩
  · have hn := Step.newNil hst.sim esz
    refine ⟨.val r', _, _, _, h1, hst.trans hn, ?_⟩
    cases e with
    | returned v => exact ha.2 _ false _ Ctx.addLoc_same (Rel.mono hn.le _ _ _ hm)
    | _ => exact hm.elim
end Go.Sx
namespace Go.Rt
open Go Go.Sx
theorem kls0_bytes : ∀ (b : List UInt8) (n : Nat), AV.kls n (b.map byteAV)
  | [], _ => trivial
  | _ :: b, n => ⟨trivial, kls0_bytes b n⟩
theorem frzL_kl {H : Heap} {n : Nat} : ∀ (l : List AV), AV.kls n l → FrzL H n l l
  | [], _ => .nil
  | _ :: l, h => .cons (.kl h.1) (frzL_kl l h.2)
structure Lp where
  k : Nat
  ver : Nat
  els : List AV
instance : Inhabited Lp := ⟨⟨0, 0, []⟩⟩
structure Lp.here (H : Heap) (p : Lp) (b : List UInt8) : Prop where
  at' : H p.k = some (.arr p.ver 1 p.els)
  len : b.length ≤ p.els.length
  tk : p.els.take b.length = b.map byteAV
structure Lp.ok (H : Heap) (n : Nat) (p : Lp) (b : List UInt8) : Prop extends Lp.here H p b where
  lt : p.k < n
theorem Lp.here.mono {H H' : Heap} {p : Lp} {b : List UInt8} (h : p.here H b) (hH : H' p.k = H p.k) : p.here H' b := ⟨hH.trans h.at', h.len, h.tk⟩
def Lp.av (p : Lp) (len : Nat) : AV := .osl p.k p.ver 0 len
attribute [go_sem] Lp.av
theorem Lp.ok.mono {H H' : Heap} {n n' : Nat} {p : Lp} {b : List UInt8} (h : p.ok H n b) (hH : ∀ k, k < n → H' k = H k) (hn : n ≤ n') : p.ok H' n' b :=
  ⟨h.tohere.mono (hH _ h.lt), Nat.lt_of_lt_of_le h.lt hn⟩
structure LEnt where
  e : Ent
  r : Lp
  q : Lp
  v : Lp
instance : Inhabited LEnt := ⟨⟨default, default, default, default⟩⟩
def lentAV (x : LEnt) : AV := .agg [x.r.av x.e.row.length, .int .i64 x.e.fam, x.q.av x.e.qual.length, .int .i64 x.e.ts, .int .i64 x.e.seq, .int .i64 x.e.kind, x.v.av x.e.value.length]
attribute [go_sem] lentAV
structure LEnt.ok (H : Heap) (n : Nat) (x : LEnt) : Prop where
  r : x.r.ok H n x.e.row
  q : x.q.ok H n x.e.qual
  v : x.v.ok H n x.e.value
theorem LEnt.ok.mono {H H' : Heap} {n n' : Nat} {x : LEnt} (h : x.ok H n) (hH : ∀ k, k < n → H' k = H k) (hn : n ≤ n') : x.ok H' n' := ⟨h.r.mono hH hn, h.q.mono hH hn, h.v.mono hH hn⟩
structure LList (H : Heap) (n : Nat) (p : Lp) (l : List LEnt) : Prop where
  lt : p.k < n
  at' : H p.k = some (.arr p.ver 7 p.els)
  len : l.length ≤ p.els.length
  tk : p.els.take l.length = l.map lentAV
  ok : ∀ x ∈ l, x.ok H n
theorem LList.mono {H H' : Heap} {n n' : Nat} {p : Lp} {l : List LEnt} (h : LList H n p l) (hH : ∀ k, k < n → H' k = H k) (hn : n ≤ n') : LList H' n' p l :=
  ⟨Nat.lt_of_lt_of_le h.lt hn, (hH _ h.lt).trans h.at', h.len, h.tk, fun x hx => (h.ok x hx).mono hH hn⟩
theorem LList.nth {H : Heap} {n : Nat} {p : Lp} {l : List LEnt} (h : LList H n p l) {i : Nat} (hi : i < l.length) : nth p.els i = lentAV (l.getD i default) := by
  rw [← nth_map lentAV l i hi, ← h.tk]
  simp [Sx.nth, List.getD, hi]
structure Lp.mine (H : Heap) (lo hi : Nat) (p : Lp) (b : List UInt8) : Prop where
  at' : H p.k = some (.arr p.ver 1 p.els)
  els : p.els = b.map byteAV
  lo : lo ≤ p.k
  hi : p.k < hi
theorem Lp.mine.ok {H : Heap} {lo hi : Nat} {p : Lp} {b : List UInt8} (h : p.mine H lo hi b) : p.ok H hi b := ⟨⟨h.at', by rw [h.els]; simp, by rw [h.els, List.take_of_length_le (by simp)]⟩, h.hi⟩
theorem Lp.mine.mono {H H' : Heap} {lo hi hi' : Nat} {p : Lp} {b : List UInt8} (h : p.mine H lo hi b) (hH : ∀ k, lo ≤ k → k < hi → H' k = H k) (hh : hi ≤ hi') : p.mine H' lo hi' b := ⟨(hH _ h.lo h.hi).trans h.at', h.els, h.lo, Nat.lt_of_lt_of_le h.hi hh⟩
structure LEnt.mine (H : Heap) (lo hi : Nat) (x : LEnt) : Prop where
  r : x.r.mine H lo hi x.e.row
  q : x.q.mine H lo hi x.e.qual
  v : x.v.mine H lo hi x.e.value
  rq : x.r.k < x.q.k
  qv : x.q.k < x.v.k
theorem LEnt.mine.ok {H : Heap} {lo hi : Nat} {x : LEnt} (h : x.mine H lo hi) : x.ok H hi := ⟨h.r.ok, h.q.ok, h.v.ok⟩
theorem LEnt.mine.mono {H H' : Heap} {lo hi hi' : Nat} {x : LEnt} (h : x.mine H lo hi) (hH : ∀ k, lo ≤ k → k < hi → H' k = H k) (hh : hi ≤ hi') : x.mine H' lo hi' := ⟨h.r.mono hH hh, h.q.mono hH hh, h.v.mono hH hh, h.rq, h.qv⟩
def LEnt.ks (x : LEnt) : List Nat := [x.r.k, x.q.k, x.v.k]
structure MineL (H : Heap) (lo hi : Nat) (xs : List LEnt) : Prop where
  all : ∀ x ∈ xs, x.mine H lo hi
  nd : (xs.flatMap LEnt.ks).Nodup
theorem MineL.nil (H : Heap) (lo hi : Nat) : MineL H lo hi [] := ⟨fun _ h => by (cases h), .nil⟩
theorem MineL.mono {H H' : Heap} {lo hi hi' : Nat} {xs : List LEnt} (h : MineL H lo hi xs) (hH : ∀ k, lo ≤ k → k < hi → H' k = H k) (hh : hi ≤ hi') : MineL H' lo hi' xs := ⟨fun x hx => (h.all x hx).mono hH hh, h.nd⟩
theorem MineL.ok {H : Heap} {lo hi : Nat} {xs : List LEnt} (h : MineL H lo hi xs) : ∀ x ∈ xs, x.ok H hi := fun x hx => (h.all x hx).ok
structure LEnt.there (H : Heap) (k : Nat) (x : LEnt) : Prop where
  r : x.r.here H x.e.row
  q : x.q.here H x.e.qual
  v : x.v.here H x.e.value
  ne : k ∉ x.ks
theorem LEnt.there.mono {H H' : Heap} {k : Nat} {x : LEnt} (h : x.there H k) (hj : ∀ j, j ≠ k → H' j = H j) : x.there H' k := by
  have h1 := h.ne
  simp only [LEnt.ks, List.mem_cons, List.not_mem_nil, or_false, not_or] at h1
  exact ⟨h.r.mono (hj _ (Ne.symm h1.1)), h.q.mono (hj _ (Ne.symm h1.2.1)), h.v.mono (hj _ (Ne.symm h1.2.2)), h.ne⟩
structure OwnA (H : Heap) (lo hi : Nat) (ko ver : Nat) (xs : List LEnt) : Prop where
  at' : H ko = some (.arr ver 7 (xs.map lentAV))
  ge : lo ≤ ko
  lt : ko < hi
  mine : MineL H lo hi xs
  ne : ko ∉ xs.flatMap LEnt.ks
theorem OwnA.mono {H H' : Heap} {lo hi hi' ko ver : Nat} {xs : List LEnt} (h : OwnA H lo hi ko ver xs) (hH : ∀ k, lo ≤ k → k < hi → H' k = H k) (hh : hi ≤ hi') : OwnA H' lo hi' ko ver xs :=
  ⟨(hH _ h.ge h.lt).trans h.at', h.ge, Nat.lt_of_lt_of_le h.lt hh, h.mine.mono hH hh, h.ne⟩
def AnsU (H : Heap) (lo hi : Nat) (a : AV) (es : List Ent) : Prop := (a = .nilsl ∧ es = []) ∨ ∃ ko ver xs, a = .osl ko ver 0 xs.length ∧ xs.map (·.e) = es ∧ OwnA H lo hi ko ver xs
theorem AnsU.nil (H : Heap) (lo hi : Nat) : AnsU H lo hi .nilsl [] := .inl ⟨rfl, rfl⟩
theorem AnsU.strip {H : Heap} {lo hi : Nat} {a : AV} {es : List Ent} (h : AnsU H lo hi a es) : Sx.strip true a = a := by
  rcases h with ⟨rfl, _⟩ | ⟨_, _, _, rfl, _⟩ <;> rfl
def AnsK (n : Nat) (H : Heap) (es : List Ent) (err : Int) (res : ARes) (H' : Heap) (n' : Nat) : Prop := ∃ a, res = .val (.tup [a, .int .i64 err]) ∧ AnsU H' n n' a es ∧ n ≤ n' ∧ ∀ k, k < n → H' k = H k
def AnsO (n : Nat) (H : Heap) (es : List Ent) (err : Int) (res : ARes) (H' : Heap) (n' : Nat) : Prop := ∃ ko ver xs, res = .val (.tup [.osl ko ver 0 xs.length, .int .i64 err]) ∧ xs.map (·.e) = es ∧ OwnA H' n n' ko ver xs ∧ n ≤ n' ∧ ∀ k, k < n → H' k = H k
theorem AnsK.own {P : Program} {f : FuncId} {args : List AV} {H : Heap} {n : Nat} {es : List Ent} {err : Int} (h : ACalls P f args H n (AnsK n H es err)) : ACalls P f args H n (AnsO n H es err) := by
  refine h.adopt fun res H1 n1 ⟨a, hr, ha, hn, hlow⟩ => ?_
  rcases ha with ⟨rfl, rfl⟩ | ⟨ko, ver, xs, rfl, h1, h2⟩
  · exact .inr ⟨_, _, 7, hr, Adp.tup (m := [.osl n1 0 0 0, .int .i64 err]) ⟨Adp.nilsl _, Adp.refl _ _, trivial⟩, n1, 0, [], rfl, rfl, ⟨Heap.put_same _ _ _, hn, by omega, MineL.nil _ _ _, by simp⟩, by omega, fun k hk => (Heap.put_ne _ _ (by omega)).trans (hlow k hk)⟩
  · exact .inl ⟨ko, ver, xs, hr, h1, h2, hn, hlow⟩
end Go.Rt
namespace Go.Rt
open Go Go.Sx
theorem uintB_lt {v : Nat} (h : v < 128) : uintB v = [UInt8.ofNat v] := by rw [uintB]; simp [h]
theorem uintB_ge {v : Nat} (h : 128 ≤ v) : uintB v = UInt8.ofNat (v % 128 + 128) :: uintB (v / 128) := by rw [uintB]; simp [Nat.not_lt.2 h]
theorem uintB_len : ∀ (k v : Nat), v < 128 ^ (k + 1) → (uintB v).length ≤ k + 1
  | 0, v, h => by rw [uintB_lt (by simpa using h)]; simp
  | k + 1, v, h => by
    by_cases hv : v < 128
    · rw [uintB_lt hv]; simp
    · rw [uintB_ge (by omega), List.length_cons]
      have := uintB_len k (v / 128) (by
        rw [Nat.div_lt_iff_lt_mul (by omega)]
        simpa [Nat.pow_succ] using h)
      omega
theorem uintB_len10 {v : Nat} (h : v < 18446744073709551616) : (uintB v).length ≤ 10 := uintB_len 9 v (by omega)
theorem u64_lt (n : Int) : u64 n < 18446744073709551616 := by unfold u64; omega
theorem u64_nat (n : Nat) (h : n < 18446744073709551616) : u64 n = n := by unfold u64; omega
theorem u64_wrap (n : Int) : IntKind.u64.wrap n = (u64 n : Int) := by rw [IntKind.wrap_u64]; unfold u64; omega
theorem u8_wrap (n : Int) : IntKind.u8.wrap n = ((byteI n).toNat : Int) := by
  have : IntKind.u8.wrap n = n % 256 := by simp [IntKind.wrap, IntKind.bits, IntKind.signed]
  rw [this]; unfold byteI
  simp; omega
theorem byteI_wrap (n : Int) : AV.int .u8 (IntKind.u8.wrap n) = byteAV (byteI n) := by rw [u8_wrap]; rfl
theorem byteI_nat (v : Nat) : byteI v = UInt8.ofNat v := by
  unfold byteI
  apply UInt8.toNat_inj.1
  simp; omega
theorem or128 (v : Nat) : AV.int .u8 (intBits .or .u8 (IntKind.u8.wrap (v : Int)) 128) = byteAV (UInt8.ofNat (v % 128 + 128)) := by
  have h1 : IntKind.u8.wrap (v : Int) = ((v % 256 : Nat) : Int) := by
    have : IntKind.u8.wrap (v : Int) = (v : Int) % 256 := by simp [IntKind.wrap, IntKind.bits, IntKind.signed]
    rw [this]; omega
  rw [h1]
  have key : ∀ r : Fin 256, intBits .or .u8 ((r.1 : Nat) : Int) 128 = ((UInt8.ofNat (r.1 % 128 + 128)).toNat : Int) := by decide +kernel
  have := key ⟨v % 256, Nat.mod_lt _ (by omega)⟩
  simp only at this
  rw [this]
  have e : v % 256 % 128 = v % 128 := by omega
  rw [e]; rfl
theorem shr7 (v : Nat) : (v : Int).fdiv (2 ^ (min 7 64 : Nat)) = ((v / 128 : Nat) : Int) := by
  have : (2 : Int) ^ (min 7 64 : Nat) = 128 := by decide
  rw [this, Int.fdiv_eq_ediv_of_nonneg _ (by omega)]; omega
structure WSt (H : Heap) (n kw kb M : Nat) (bs : List UInt8) : Prop where
  ex : ∃ ver, H kw = some (.arr 0 1 [.agg [.osl kb ver 0 bs.length]]) ∧ H kb = some (.arr ver 1 (bs.map byteAV))
  ne : kw ≠ kb
  lw : kw < n
  lb : kb < n
  len : bs.length ≤ M
theorem WSt.mono {H H' : Heap} {n n' kw kb M : Nat} {bs : List UInt8} (h : WSt H n kw kb M bs) (hn : n ≤ n') (hw : H' kw = H kw) (hb : H' kb = H kb) : WSt H' n' kw kb M bs :=
  ⟨by obtain ⟨ver, h1, h2⟩ := h.ex; exact ⟨ver, hw.trans h1, hb.trans h2⟩, h.ne, Nat.lt_of_lt_of_le h.lw hn, Nat.lt_of_lt_of_le h.lb hn, h.len⟩
theorem WSt.up {H : Heap} {n kw kb M M' : Nat} {bs : List UInt8} (h : WSt H n kw kb M bs) (hM : M ≤ M') : WSt H n kw kb M' bs := ⟨h.ex, h.ne, h.lw, h.lb, Nat.le_trans h.len hM⟩
def WK (H : Heap) (n kw kb M : Nat) (bs : List UInt8) (res : ARes) (H' : Heap) (n' : Nat) : Prop := res = .val (.tup []) ∧ n ≤ n' ∧ WSt H' n' kw kb M bs ∧ ∀ k, k < n → k ≠ kw → k ≠ kb → H' k = H k
theorem WK.up {H H1 H' : Heap} {n n1 n' kw kb M : Nat} {bs : List UInt8} {res : ARes} (h : WK H1 n1 kw kb M bs res H' n') (hn : n ≤ n1) (hl : ∀ k, k < n → k ≠ kw → k ≠ kb → H1 k = H k) : WK H n kw kb M bs res H' n' :=
  ⟨h.1, Nat.le_trans hn h.2.1, h.2.2.1, fun k hk h1 h2 => (h.2.2.2 k (by omega) h1 h2).trans (hl k hk h1 h2)⟩
end Go.Rt
namespace Go.Rt
open Go Go.Sx
def iv8 : AV → Nat
  | .int _ i => (i + 8).toNat
  | _ => 0
theorem eight_take (n : Int) {j : Nat} (h : j < 8) : (eightB n).take j ++ [byteI (n / 2 ^ (56 - 8 * j))] = (eightB n).take (j + 1) := by
  rcases j with _ | _ | _ | _ | _ | _ | _ | _ | j <;> first | rfl | omega
theorem eight_len (n : Int) : (eightB n).length = 8 := rfl
theorem fdiv_pow (n : Int) (k : Nat) : n.fdiv (2 ^ k) = n / 2 ^ k := Int.fdiv_eq_ediv_of_nonneg _ (Int.le_of_lt (Int.pow_pos (by omega)))
end Go.Rt
namespace Go.Rt
open Go Go.Sx
structure CmdE.fits (c : CmdE) : Prop where
  row : c.row.length ≤ 1048576
  conds : c.conds.length ≤ 1048576
  cond : ∀ x ∈ c.conds, x.qual.length ≤ 1048576 ∧ x.value.length ≤ 1048576
  ops : c.ops.length ≤ 1048576
  op : ∀ x ∈ c.ops, x.qual.length ≤ 1048576 ∧ x.value.length ≤ 1048576
  frm : c.q.frm.length ≤ 1048576
  to : c.q.to.length ≤ 1048576
  fams : c.q.fams.length ≤ 1048576
  pre : c.q.pre.length ≤ 1048576
  whr : c.q.whr.length ≤ 1048576
  token : c.q.token.length ≤ 1048576
structure WS (H0 : Heap) (n0 : Nat) (B : List (Nat × AObj)) (kw kb M : Nat) (bs : List UInt8) (H' : Heap) (n' : Nat) : Prop where
  w : WSt H' n' kw kb M bs
  keep : ∀ p ∈ B, H' p.1 = some p.2 ∧ p.1 ≠ kw ∧ p.1 ≠ kb ∧ p.1 < n'
  low : ∀ k, k < n0 → H' k = H0 k
  gw : n0 ≤ kw
  gb : n0 ≤ kb
theorem WS.call {H0 : Heap} {n0 : Nat} {B : List (Nat × AObj)} {kw kb M M' : Nat} {bs bs' : List UInt8} {H1 H2 : Heap} {n1 n2 : Nat} {res : ARes} (h : WS H0 n0 B kw kb M bs H1 n1) (hk : WK H1 n1 kw kb M' bs' res H2 n2) : WS H0 n0 B kw kb M' bs' H2 n2 where
  w := hk.2.2.1
  keep := fun p hp => by
    obtain ⟨h1, h2, h3, h4⟩ := h.keep p hp
    exact ⟨(hk.2.2.2 _ h4 h2 h3).trans h1, h2, h3, Nat.lt_of_lt_of_le h4 hk.2.1⟩
  low := fun k hk2 => (hk.2.2.2 k (by have := h.w.lw; have := h.gw; omega) (by have := h.gw; omega) (by have := h.gb; omega)).trans (h.low k hk2)
  gw := h.gw
  gb := h.gb
theorem WS.on {H0 : Heap} {n0 : Nat} {B : List (Nat × AObj)} {kw kb M : Nat} {bs : List UInt8} {H1 H2 : Heap} {n1 n2 : Nat} (h : WS H0 n0 B kw kb M bs H1 n1) (hl : ∀ k, k < n1 → H2 k = H1 k) (hn : n1 ≤ n2) : WS H0 n0 B kw kb M bs H2 n2 where
  w := h.w.mono hn (hl _ h.w.lw) (hl _ h.w.lb)
  keep := fun p hp => by
    obtain ⟨h1, h2, h3, h4⟩ := h.keep p hp
    exact ⟨(hl _ h4).trans h1, h2, h3, Nat.lt_of_lt_of_le h4 hn⟩
  low := fun k hk => (hl k (by have := h.w.lw; have := h.gw; omega)).trans (h.low k hk)
  gw := h.gw
  gb := h.gb
theorem WS.add {H0 : Heap} {n0 : Nat} {B : List (Nat × AObj)} {kw kb M : Nat} {bs : List UInt8} {H1 : Heap} {n1 : Nat} (h : WS H0 n0 B kw kb M bs H1 n1) {k : Nat} {o : AObj} (hk : H1 k = some o) (h1 : k ≠ kw) (h2 : k ≠ kb) (h3 : k < n1) : WS H0 n0 ((k, o) :: B) kw kb M bs H1 n1 :=
  ⟨h.w, fun p hp => by
      rcases List.mem_cons.1 hp with rfl | hp
      · exact ⟨hk, h1, h2, h3⟩
      · exact h.keep p hp, h.low, h.gw, h.gb⟩
theorem WS.drop {H0 : Heap} {n0 : Nat} {B : List (Nat × AObj)} {kw kb M : Nat} {bs : List UInt8} {H1 : Heap} {n1 : Nat} {p : Nat × AObj} (h : WS H0 n0 (p :: B) kw kb M bs H1 n1) : WS H0 n0 B kw kb M bs H1 n1 :=
  { h with keep := fun q hq => h.keep q (List.mem_cons_of_mem _ hq) }
theorem WS.get {H0 : Heap} {n0 : Nat} {B : List (Nat × AObj)} {kw kb M : Nat} {bs : List UInt8} {H1 : Heap} {n1 : Nat} (h : WS H0 n0 B kw kb M bs H1 n1) (k : Nat) (o : AObj) (hm : (k, o) ∈ B) : H1 k = some o := (h.keep (k, o) hm).1
theorem WS.up {H0 : Heap} {n0 : Nat} {B : List (Nat × AObj)} {kw kb M M' : Nat} {bs : List UInt8} {H1 : Heap} {n1 : Nat} (h : WS H0 n0 B kw kb M bs H1 n1) (hM : M ≤ M') : WS H0 n0 B kw kb M' bs H1 n1 := { h with w := h.w.up hM }
theorem WS.eq {H0 : Heap} {n0 : Nat} {B : List (Nat × AObj)} {kw kb M : Nat} {bs bs' : List UInt8} {H1 : Heap} {n1 : Nat} (h : WS H0 n0 B kw kb M bs H1 n1) (e : bs = bs') : WS H0 n0 B kw kb M bs' H1 n1 := e ▸ h
theorem WS.out {H0 : Heap} {n0 : Nat} {B : List (Nat × AObj)} {kw kb M : Nat} {bs : List UInt8} {H1 : Heap} {n1 : Nat} (h : WS H0 n0 B kw kb M bs H1 n1) : ∃ ver, H1 kw = some (.arr 0 1 [.agg [.osl kb ver 0 bs.length]]) ∧ H1 kb = some (.arr ver 1 (bs.map byteAV)) := h.w.ex
theorem flatMap_take {α : Type} [Inhabited α] (f : α → List UInt8) (l : List α) {i : Nat} (h : i < l.length) : (l.take (i + 1)).flatMap f = (l.take i).flatMap f ++ f (l.getD i default) := by
  rw [List.take_succ_eq_append_getElem h, List.flatMap_append]
  simp [List.getD, List.getElem?_eq_getElem h]
theorem flatMap_all {α : Type} (f : α → List UInt8) (l : List α) {i : Nat} (h : l.length ≤ i) : (l.take i).flatMap f = l.flatMap f := by rw [List.take_of_length_le h]
theorem getD_mem {α : Type} [Inhabited α] (l : List α) {i : Nat} (h : i < l.length) : l.getD i default ∈ l := by
  rw [List.getD, List.getElem?_eq_getElem h]; exact List.getElem_mem _
def kClient (k : Int) : Bool := k == 3
def kFree (k : Int) : Bool := decide (4 ≤ k)
def kOps (k : Int) : Bool := k == 4
def kLeast (k : Int) : Int := if k = 5 then 1 else if k = 6 then 0 else if k = 0 then 0 else -1
def kQuery (k : Int) : Bool := k == 7
def kindAV (k : Int) : AV := .agg [.bool (kClient k), .bool (kFree k), .bool (kOps k), .int .i64 (kLeast k), .bool (kQuery k)]
def kindsL : List AV := (List.range 8).map fun (i : Nat) => kindAV i
theorem kindsL_nth {k : Int} (h0 : 0 ≤ k) (h8 : k < 8) : nth kindsL k.toNat = kindAV k := by
  obtain ⟨i, rfl⟩ : ∃ i : Nat, k = i := ⟨k.toNat, by omega⟩
  rw [Int.toNat_natCast]
  have hi : i < 8 := by omega
  simp [nth, kindsL, List.getD, hi]
def tableN : List Int := [0, 274646895, 549293790, 820201905, 1098587580, 1361435347, 1640403810, 1905808397, 2197175160, 2460548119, 2722870694, 2987750089, 3280807620, 3553878443, 3811616794, 4084100981]
def tableL : List AV := tableN.map fun n => .int .u32 n
structure GOK (gk gt : Nat) (H : Heap) (n : Nat) : Prop where
  kinds : H gk = some (.glob 5 kindsL)
  table : H gt = some (.glob 1 tableL)
  gek : gk < n
  get : gt < n
theorem GOK.on {gk gt : Nat} {H H' : Heap} {n n' : Nat} (h : GOK gk gt H n) (hl : ∀ k, k < n → H' k = H k) (hn : n ≤ n') : GOK gk gt H' n' :=
  ⟨(hl gk h.gek).trans h.kinds, (hl gt h.get).trans h.table, Nat.lt_of_lt_of_le h.gek hn, Nat.lt_of_lt_of_le h.get hn⟩
end Go.Rt
namespace Go.Proofs.YtifnhpmeoogedaaGreatDoor
open Go Go.Sx Go.Rt Go.Proofs Go.ChangeShapes Go.WideShapes Go.ChangeAt Go.RowKit
def tabs : List (String × DataW Unit) := [("strata/wire.table", Rows.laid_strata_wire_table), ("strata/order.kinds", Rows.laid_strata_order_kinds)]
def kindC (k : Int) : List Value := [.bool (kClient k), .bool (kFree k), .bool (kOps k), .int .i64 (kLeast k), .bool (kQuery k)]
def kindD (k : Int) : DataW Unit := .agg [.lit (.bool (kClient k)), .lit (.bool (kFree k)), .lit (.bool (kOps k)), .lit (.int .i64 (kLeast k)), .lit (.bool (kQuery k))]
theorem kindsD : (Rows.laid_strata_order_kinds : DataW Unit) = .agg ((List.range' 0 8).map fun (i : Nat) => kindD i) := rfl
theorem one_bool {W : World} {fuel : Nat} {cs : List Value} {p : List MemPlace} {b : Bool} (h : DataW.trod (fun _ => ()) Tryz.prog W 0 (fun _ => true) false fuel 4 cs = some (.lit (.bool b), p)) : cs = [.bool b] := by
  obtain ⟨b', rfl, hx⟩ := DataW.trod_bool Tryz.underlying4 h
  simp at hx; rw [hx.1]
theorem one_int {W : World} {fuel : Nat} {cs : List Value} {p : List MemPlace} {n : Int} (h : DataW.trod (fun _ => ()) Tryz.prog W 0 (fun _ => true) false fuel 3 cs = some (.lit (.int .i64 n), p)) : cs = [.int .i64 n] := by
  obtain ⟨n', rfl, hx, _⟩ := DataW.trod_int Tryz.underlying3 h
  simp at hx; rw [hx.1]
theorem get_take {l : List Value} {i : Nat} {v : Value} (h : (l.drop i).take 1 = [v]) : l[i]? = some v := by
  have := congrArg (·[0]?) h
  simpa [List.getElem?_take, List.getElem?_drop] using this
set_option maxRecDepth 100000 in
theorem kind_cells {W : World} {fuel : Nat} {cs : List Value} {p : List MemPlace} {k : Int} (h : DataW.trod (fun _ => ()) Tryz.prog W 0 (fun _ => true) false fuel 102 cs = some (kindD k, p)) : cs = kindC k := by
  obtain ⟨ys, n, rfl, hx, hl, hyl, hy⟩ := DataW.trod_struct Tryz.underlying102 h
  have hys : ys.map (·.1) = [.lit (.bool (kClient k)), .lit (.bool (kFree k)), .lit (.bool (kOps k)), .lit (.int .i64 (kLeast k)), .lit (.bool (kQuery k))] := by
    have := congrArg Prod.fst hx
    simp only [kindD, DataW.agg.injEq] at this
    exact this.symm
  have hcl : cs.length = 5 := hl.trans (by kernel_rfl)
  have get : ∀ i, i < 5 → ∃ q, ys[i]? = some ((ys.map (·.1)).getD i .nil, q) := fun i hi => by
    have : i < ys.length := by have := congrArg List.length hys; simp at this; omega
    exact ⟨(ys[i]).2, by simp [List.getD, this]⟩
  have c0 : (cs.drop 0).take 1 = [.bool (kClient k)] := by
    obtain ⟨q, hq⟩ := get 0 (by omega)
    have := hy 0 _ rfl
    rw [hq, hys] at this
    exact one_bool this
  have c1 : (cs.drop 1).take 1 = [.bool (kFree k)] := by
    obtain ⟨q, hq⟩ := get 1 (by omega)
    have := hy 1 _ rfl
    rw [hq, hys] at this
    exact one_bool this
  have c2 : (cs.drop 2).take 1 = [.bool (kOps k)] := by
    obtain ⟨q, hq⟩ := get 2 (by omega)
    have := hy 2 _ rfl
    rw [hq, hys] at this
    exact one_bool this
  have c3 : (cs.drop 3).take 1 = [.int .i64 (kLeast k)] := by
    obtain ⟨q, hq⟩ := get 3 (by omega)
    have := hy 3 _ rfl
    rw [hq, hys] at this
    exact one_int this
  have c4 : (cs.drop 4).take 1 = [.bool (kQuery k)] := by
    obtain ⟨q, hq⟩ := get 4 (by omega)
    have := hy 4 _ rfl
    rw [hq, hys] at this
    exact one_bool this
  apply List.ext_getElem?
  intro i
  match i with
  | 0 => exact get_take c0
  | 1 => exact get_take c1
  | 2 => exact get_take c2
  | 3 => exact get_take c3
  | 4 => exact get_take c4
  | i + 5 => rw [List.getElem?_eq_none (by omega), List.getElem?_eq_none (by simp [kindC])]
theorem var_cells {W : World} {nm : String} {g : Nat} {cs : Array Value} (hg : (Tryz.prog).globalNamed nm = some g) (h : W.var? Tryz.prog nm = some cs) : ∃ ty fr, W.heap[g]? = some (.cells cs ty fr) := by
  unfold World.var? at h
  rw [hg] at h
  simp only [Option.bind_some] at h
  split at h
  · rename_i c ty fr hb; simp only [Option.some.injEq] at h; subst h; exact ⟨ty, fr, hb⟩
  · simp at h
theorem tables {W : World} (h : laidMetH Tryz.prog tabs W) : ∃ (aT aK : Array Value) (tT tK : TypeId) (fT fK : Nat × Nat), W.heap[2]? = some (.cells aT tT fT) ∧ W.heap[0]? = some (.cells aK tK fK) ∧
    At aT 0 (tableN.map fun n => .int .u32 n) ∧ At aK 0 ((List.range' 0 8).flatMap fun (i : Nat) => kindC i) := by
  have h : laidMet Tryz.prog tabs W := h
  obtain ⟨ps, ⟨g, t, cs, fuel, p, q, hg, ht, hv, hd, ⟨g2, t2, cs2, fuel2, p2, q2, hg2, ht2, hv2, hd2, _, _⟩, _⟩, _⟩ := h
  have e1 : (Tryz.prog).globalNamed "strata/wire.table" = some 2 := by kernel_rfl
  have e2 : (Tryz.prog).globalNamed "strata/order.kinds" = some 0 := by kernel_rfl
  have e3 : ((Tryz.prog).globals[2]?).map (·.type) = some 232 := by kernel_rfl
  have e4 : ((Tryz.prog).globals[0]?).map (·.type) = some 103 := by kernel_rfl
  obtain rfl := Option.some.inj (hg.symm.trans e1)
  obtain rfl := Option.some.inj (hg2.symm.trans e2)
  obtain rfl := Option.some.inj (ht.symm.trans e3)
  obtain rfl := Option.some.inj (ht2.symm.trans e4)
  obtain ⟨tT, fT, hT⟩ := var_cells e1 hv
  obtain ⟨tK, fK, hK⟩ := var_cells e2 hv2
  refine ⟨cs, cs2, tT, tK, fT, fK, hT, hK, ?_, ?_⟩
  · have hc : cs.toList = tableN.map fun z => Value.int .u32 z := Lib.cells_of_tab (zs := tableN) Tryz.underlying232 Tryz.underlying217 (by kernel_rfl) (by kernel_rfl) hd
    exact At.self hc
  · obtain ⟨xs, m, rfl, hx, hl, hxl, hy⟩ := DataW.trod_array Tryz.underlying103 hd2
    have hxs : xs.map (·.1) = (List.range' 0 8).map fun (i : Nat) => kindD i := by
      have := congrArg Prod.fst hx
      rw [kindsD] at this
      simp only [DataW.agg.injEq] at this
      exact this.symm
    have h5 : (Tryz.prog).cellsOf 102 = 5 := by kernel_rfl
    have hk : ∀ i, i < 8 → (cs2.toList.drop (i * 5)).take 5 = kindC i := fun i hi => by
      have h1 := hy i hi
      rw [h5] at h1
      have h2 : xs[i]? = some (kindD i, ((xs[i]?).getD (.nil, [])).2) := by
        have hlt : i < xs.length := by omega
        have : (xs.map (·.1))[i]? = some (kindD i) := by rw [hxs]; simp [List.getElem?_map, List.getElem?_range', hi]
        simp only [List.getElem?_map, List.getElem?_eq_getElem hlt, Option.map_some, Option.some.injEq] at this
        simp [List.getElem?_eq_getElem hlt, ← this]
      rw [h2] at h1
      exact kind_cells h1
    have := at_flat (arr := cs2) (off := 0) (esz := 5) (fun (i : Nat) => kindC i) 8 0 fun i _ hi => ⟨rfl, fun j v hj => by
      have hk := hk i (by omega)
      have hjl : j < 5 := by
        rcases Nat.lt_or_ge j 5 with h | h
        · exact h
        · rw [List.getElem?_eq_none (by show 5 ≤ j; exact h)] at hj; simp at hj
      rw [← hk, List.getElem?_take_of_lt hjl, List.getElem?_drop] at hj
      rw [Nat.zero_add]
      simpa using hj⟩
    simpa using this
def cG (W : World) : Ctx := ⟨fun k v => if (k = 0 ∨ k = 2) ∧ v = 0 then some .nil else none, (c0 W).ro⟩
def HG : Heap := fun k => if k = 0 then some (.glob 5 kindsL) else if k = 2 then some (.glob 1 tableL) else none
theorem cG_le (W : World) : (c0 W).le (cG W) := ⟨fun h => by simp [c0] at h, fun h => h⟩
theorem gokG : GOK 0 2 HG 3 := ⟨rfl, rfl, by decide, by decide⟩
theorem simG {W : World} (h : laidMetH Tryz.prog tabs W) : Sim (cG W) HG 3 W where
  ro := (sim0 W).ro
  own := fun k o hk => by
    obtain ⟨aT, aK, tT, tK, fT, fK, hT, hK, aT', aK'⟩ := tables h
    unfold HG at hk
    split at hk
    · rename_i e; subst e; cases hk
      refine ⟨by simp [cG], fun x hx => ?_, aK, _, by simp [cG, c0, hK], ?_, aK'⟩
      · obtain ⟨i, _, rfl⟩ := List.mem_map.1 hx; rfl
      · exact relF_flat (fun (i : Nat) => kindAV i) (fun (i : Nat) => kindC i) (List.range' 0 8) fun i _ => by
          simp only [kindAV, Rel, RelF, kindC]
          exact ⟨[_], _, rfl, rfl, [_], _, rfl, rfl, [_], _, rfl, rfl, [_], _, rfl, rfl, [_], _, rfl, rfl, rfl⟩
    · split at hk
      · rename_i e; subst e; cases hk
        refine ⟨by simp [cG], fun x hx => ?_, aT, _, by simp [cG, c0, hT], ?_, aT'⟩
        · obtain ⟨i, _, rfl⟩ := List.mem_map.1 hx; rfl
        · unfold tableL
          generalize tableN = l
          induction l with
          | nil => simp [RelF]
          | cons n l ih => simp only [List.map_cons, RelF]; exact ⟨[_], _, rfl, rfl, ih⟩
      · simp at hk
  sep := fun k o b hk hb => by
    unfold HG at hk
    split at hk
    · rename_i e; subst e; cases hk; simp [blockOf, AObj.ver, cG] at hb
    · split at hk
      · rename_i e; subst e; cases hk; simp [blockOf, AObj.ver, cG] at hb
      · simp at hk
  inj := fun k k' o o' b hk hk' hb _ => by
    unfold HG at hk
    split at hk
    · rename_i e; subst e; cases hk; simp [blockOf, AObj.ver, cG] at hb
    · split at hk
      · rename_i e; subst e; cases hk; simp [blockOf, AObj.ver, cG] at hb
      · simp at hk
  fresh := fun k hk => ⟨by unfold HG; rw [if_neg (by omega), if_neg (by omega)], fun v => by simp only [cG]; rw [if_neg (by omega)]⟩
  vers := fun k o v hk hv => by
    have : ¬ v = 0 := by omega
    simp [cG, this]
theorem retG {f : FuncId} {args : List AV} {W : World} {vs : List Value} (hw : laidMetH Tryz.prog tabs W) (h : Ret Tryz.prog f args HG 3 (.bool true) HG 3) (hr : RelT (c0 W) args vs) :
    Calls Tryz.prog f vs.toArray W fun e w' => e = .returned (.bool true) ∧ RowKit.Below W.heap.size W w' :=
  (h (cG W) W vs (simG hw) (RelT.mono (cG_le W) _ _ hr)).mono fun e w' ⟨res, c', H', n', ⟨hres, _, _⟩, hst, hm⟩ => by
    subst hres
    refine ⟨?_, ?_⟩
    · cases e with
      | returned v => simp only [Rel, List.cons.injEq, and_true] at hm; rw [hm]
      | panicked _ => exact hm.elim
      | outgrown => exact hm.elim
    · have hf := hst.fr
      exact ⟨hf.os, hf.tape, hf.output, hf.size, fun k hk => hf.keep k hk fun ⟨j, o, h1, hb⟩ => by
        unfold HG at h1
        split at h1
        · rename_i e; subst e; cases h1; simp [blockOf, AObj.ver, cG] at hb
        · split at h1
          · rename_i e; subst e; cases h1; simp [blockOf, AObj.ver, cG] at hb
          · simp at h1⟩
def putCells (cs : Array Value) : Obj → Obj
  | .cells _ t fr => .cells cs t fr
  | o => o
noncomputable def laidWorld (os : Os) : World :=
  { World.holding Tryz.prog os ⟨#[], #[], []⟩ with heap := ((World.holding Tryz.prog os ⟨#[], #[], []⟩).heap.modify 2 (putCells #[.int .u32 0, .int .u32 274646895, .int .u32 549293790, .int .u32 820201905, .int .u32 1098587580, .int .u32 1361435347, .int .u32 1640403810, .int .u32 1905808397, .int .u32 2197175160, .int .u32 2460548119, .int .u32 2722870694, .int .u32 2987750089, .int .u32 3280807620, .int .u32 3553878443, .int .u32 3811616794, .int .u32 4084100981])).modify 0 (putCells #[.bool false, .bool false, .bool false, .int .i64 0, .bool false, .bool false, .bool false, .bool false, .int .i64 (-1), .bool false, .bool false, .bool false, .bool false, .int .i64 (-1), .bool false, .bool true, .bool false, .bool false, .int .i64 (-1), .bool false, .bool false, .bool true, .bool true, .int .i64 (-1), .bool false, .bool false, .bool true, .bool false, .int .i64 1, .bool false, .bool false, .bool true, .bool false, .int .i64 0, .bool false, .bool false, .bool true, .bool false, .int .i64 (-1), .bool true]) }
end Go.Proofs.YtifnhpmeoogedaaGreatDoor