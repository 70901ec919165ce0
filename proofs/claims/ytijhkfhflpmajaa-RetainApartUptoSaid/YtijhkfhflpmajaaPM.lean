/- Own layer: the law Apart: its helpers. Of the program; no condition. -/
import Derived.Test.YtijhkfhflpmajaaPL
import Derived.Test.YtijhkfhflpmajaaPI
set_option linter.unusedSimpArgs false
set_option linter.unusedVariables false
namespace Go.Proofs.Ytijhkfhflpmajaa
open Go Go.Sx Go.Rt Go.Proofs
def ptrAV : Option Nat → AV
  | none => .nilp
  | some k => .loc k 0 0 0 []
theorem ptrAV_eql (P : Program) (t : TypeId) (o : Option Nat) : qBin P t .eql (ptrAV o) .nilp = some (tIsPtr P t = true, .bool o.isNone) := by cases o <;> rfl
theorem strip_ptr (g : Bool) (o : Option Nat) : strip g (ptrAV o) = ptrAV o := by cases o <;> cases g <;> rfl
theorem ptrAV_some (k : Nat) : ptrAV (some k) = .loc k 0 0 0 [] := rfl
theorem ap_newF (s : List Fml) (hs : s.length ≤ 2000000) (clock low : Int) (mj : Bool) (L : List Ent) (H : Heap) (n : Nat) :
    ACalls Try.prog 29 [schAV s, .int .i64 clock, .bool mj, .int .i64 low] H n fun res H' n' => n ≤ n' ∧ (∀ k, k < n → H' k = H k) ∧ ∃ o ks, res = .val (.tup [ptrAV o, .int .i64 (boundsE s clock [low] 1)]) ∧ o.isNone = (boundsE s clock [low] 1 != 0) ∧ SlotF (wlk0 s clock, kst0 mj low) L o ks 0 [] H' n' ∧ ∀ k ∈ ks, n ≤ k := by
  refine (c_retain_NewFilter s hs clock low mj H n).mono fun res H' n' ⟨h1, h2, h3, h4⟩ => ⟨h1, h2, ?_⟩
  by_cases h0 : boundsE s clock [low] 1 = 0
  · obtain ⟨kf, kw, kt, ko, lo, h, hr, a1, a2, a3, a4, a5, hs⟩ := h4 h0
    refine ⟨some kf, [kf, kw, kt, ko], by rw [h0]; exact hr, by rw [h0]; rfl, .inr ⟨kf, rfl, ⟨kw, kt, ko, lo, h, rfl, hs⟩, rfl⟩, fun k hk => ?_⟩
    simp only [List.mem_cons, List.not_mem_nil, or_false] at hk
    rcases hk with rfl | rfl | rfl | rfl <;> assumption
  · exact ⟨none, [], h3 h0, by simp [h0], .inl ⟨rfl, rfl, rfl⟩, fun k hk => by cases hk⟩
theorem ap_newR (s : List Fml) (hs : s.length ≤ 2000000) (clock t vn : Int) (L : List Ent) (H : Heap) (n : Nat) :
    ACalls Try.prog 30 [schAV s, .int .i64 clock, .int .i64 t, .int .i64 vn] H n fun res H' n' => n ≤ n' ∧ (∀ k, k < n → H' k = H k) ∧ ∃ o ks, res = .val (.tup [ptrAV o, .int .i64 (boundsE s clock [t] vn)]) ∧ o.isNone = (boundsE s clock [t] vn != 0) ∧ SlotR (wlk0 s clock, sst0 t vn) L o ks 0 [] H' n' ∧ ∀ k ∈ ks, n ≤ k := by
  refine (c_retain_NewReader s hs clock t vn H n).mono fun res H' n' ⟨h1, h2, h3, h4⟩ => ⟨h1, h2, ?_⟩
  by_cases h0 : boundsE s clock [t] vn = 0
  · obtain ⟨kf, kw, kt, ko, lo, h, hr, a1, a2, a3, a4, a5, hs⟩ := h4 h0
    refine ⟨some kf, [kf, kw, kt, ko], by rw [h0]; exact hr, by rw [h0]; rfl, .inr ⟨kf, rfl, ⟨kw, kt, ko, lo, h, rfl, hs⟩, rfl⟩, fun k hk => ?_⟩
    simp only [List.mem_cons, List.not_mem_nil, or_false] at hk
    rcases hk with rfl | rfl | rfl | rfl <;> assumption
  · exact ⟨none, [], h3 h0, by simp [h0], .inl ⟨rfl, rfl, rfl⟩, fun k hk => by cases hk⟩
theorem ap_beg (s : List Fml) (clock low t vn : Int) (mj : Bool) : Beg s (wlk0 s clock, kst0 mj low) (wlk0 s clock, sst0 t vn) := ⟨⟨PI.start s clock, rfl, kInv0 mj low⟩, ⟨PI.start s clock, rfl, sInv0 t vn⟩⟩
theorem kp0 {G : Heap} {n n' : Nat} (h1 : G (n + 1) = some (.arr 0 6 [.agg [.agg [.osl (n + 2) 0 0 0, .osl (n + 3) 0 0 0, .osl (n + 4) 0 0 0, .osl (n + 5) 0 0 0, .nilsl], .osl (n + 6) 0 0 0]])) (h2 : G (n + 2) = some (.arr 0 1 [])) (h3 : G (n + 3) = some (.arr 0 1 [])) (h4 : G (n + 4) = some (.arr 0 1 [])) (h5 : G (n + 5) = some (.arr 0 1 [])) (h6 : G (n + 6) = some (.arr 0 1 [])) (hn : n + 7 ≤ n') :
    KpE (n + 1) (n + 6) 0 [] (tg5 n) G n' :=
  ⟨⟨n + 1, n + 2, n + 3, n + 4, n + 5, 0, 0, 0, 0⟩, [], [], 0, rfl, Bk.init h2 h3 h4 h5 (by omega), h1, h6, tg5_free (.inr (Nat.le_refl _)), by omega, rfl, fun i hi => (by cases hi), Nat.le_refl _⟩
def outL (kX : Nat) (v : Nat → Nat) (O : Nat → List Ent) : List AV := [.osl (kX + 1) (v 0) 0 (O 0).length, .osl (kX + 2) (v 1) 0 (O 1).length, .osl (kX + 3) (v 2) 0 (O 2).length, .osl (kX + 4) (v 3) 0 (O 3).length]
theorem outL_len (kX : Nat) (v : Nat → Nat) (O : Nat → List Ent) : (outL kX v O).length = 4 := rfl
theorem outL_nth (kX : Nat) (v : Nat → Nat) (O : Nat → List Ent) {c : Nat} (hc : c < 4) : nth (outL kX v O) c = .osl (kX + 1 + c) (v c) 0 (O c).length := by
  rcases c with _ | _ | _ | _ | c
  · rfl
  · rfl
  · rfl
  · rfl
  · omega
theorem outL_szs (kX : Nat) (v : Nat → Nat) (O : Nat → List Ent) {c : Nat} (hc : c < 4) : AV.szs ((outL kX v O).take c) = c := by
  rcases c with _ | _ | _ | _ | c
  · rfl
  · rfl
  · rfl
  · rfl
  · omega
theorem outL_set (kX : Nat) (v : Nat → Nat) (O : Nat → List Ent) {c : Nat} (hc : c < 4) (v' : Nat) (O' : List Ent) : (outL kX v O).set c (.osl (kX + 1 + c) v' 0 O'.length) = outL kX (upd v c v') (upd O c O') := by
  rcases c with _ | _ | _ | _ | c
  · rfl
  · rfl
  · rfl
  · rfl
  · omega
theorem outL_sz (kX : Nat) (v : Nat → Nat) (O : Nat → List Ent) : AV.szs (outL kX v O) = 4 := rfl
structure Outs (kX : Nat) (v : Nat → Nat) (O : Nat → List Ent) (H : Heap) : Prop where
  ox : H kX = some (.arr 0 4 [.agg (outL kX v O)])
  oc : ∀ c, c < 4 → H (kX + 1 + c) = some (.arr (v c) 7 ((O c).map entAV))
theorem Outs.mono {kX : Nat} {v : Nat → Nat} {O : Nat → List Ent} {H H' : Heap} (h : Outs kX v O H) (hr : ∀ k, kX ≤ k → k < kX + 5 → H' k = H k) : Outs kX v O H' :=
  ⟨(hr _ (by omega) (by omega)).trans h.ox, fun c hc => (hr _ (by omega) (by omega)).trans (h.oc c hc)⟩
theorem ents_frz1 {H : Heap} {k v : Nat} {l : List Ent} (hI : H k = some (.arr v 7 (l.map entAV))) : Frz H 0 (.osl k v 0 l.length) (entsAV l) :=
  .osl hI (Nat.zero_le _) (by simp) (by rw [List.drop_zero, List.take_of_length_le (by simp)]; exact frzL_kl _ (kls_ents l 0))
structure Tl (tg : Nat → Tg) (X : List Nat) (ks : Nat → List Nat) (ko : Nat) (xs : List LEnt) (H : Heap) (n : Nat) : Prop where
  at' : H ko = some (.arr xs.length 7 (xs.map lentAV))
  m : ∃ lo hi, MineL H lo hi xs ∧ hi ≤ n
  lt : ko < n
  fr : tg ko = .free ∧ ko ∉ X
  no : ko ∉ xs.flatMap LEnt.ks
  fk : ∀ k ∈ xs.flatMap LEnt.ks, tg k = .free ∧ k ∉ X
  dis : ∀ d, d < 4 → ∀ k ∈ ks d, k ≠ ko ∧ k ∉ xs.flatMap LEnt.ks
section
variable {s : List Fml} {pF : Wlk × KSt} {pR : Wlk × SSt} (hB : Beg s pF pR) {L : List Ent} {kb kW M : Nat} {ws : List (List Ent)} {tg : Nat → Tg} {X : List Nat} {o : Nat → Option Nat} {ks : Nat → List Nat} {j : Nat → Nat} {O : Nat → List Ent} {H : Heap} {n : Nat}
theorem told_b (h : Core pF pR L kb kW M ws tg X o ks j O H n) {c : Nat} (hc : c < 4) {ks2 : List Nat} {H2 : Heap} {n2 : Nat} (hn : n ≤ n2) {ko : Nat} {xs : List LEnt}
    (h1 : ko ∈ ks c) (h2 : ko ∉ ks2) (h3 : H2 ko = some (.arr xs.length 7 (xs.map lentAV))) (h4 : MineL H2 n n2 xs) (h5 : ∀ k ∈ xs.flatMap LEnt.ks, k ∉ ks2) : Tl tg X (upd ks c ks2) ko xs H2 n2 := by
  have hk := SS.lt (h.sl c hc) ko h1
  have hx := fun k (hk : k ∈ xs.flatMap LEnt.ks) => h4.in' hk
  refine ⟨h3, ⟨n, n2, h4, Nat.le_refl _⟩, by omega, h.fr c hc ko h1, fun h9 => by have := hx ko h9; omega, fun k h9 => ⟨Classical.byContradiction fun hne => by have := h.kp.lt.2.1 k hne; have := hx k h9; omega, fun h8 => by have := (h.xf k h8).2; have := hx k h9; omega⟩, fun d hd k h9 => ?_⟩
  by_cases e : d = c
  · rw [e, upd_same] at h9
    exact ⟨fun e => h2 (by rw [← e]; exact h9), fun h8 => h5 k h8 h9⟩
  · rw [upd_ne _ _ e] at h9
    exact ⟨fun e9 => h.ap d c hd hc e k h9 (by rw [e9]; exact h1), fun h8 => by have := SS.lt (h.sl d hd) k h9; have := hx k h8; omega⟩
include hB in
theorem told_a (hC : Core pF pR L kb kW M ws tg X o ks j O H n) : Core pF pR L kb kW M ws tg X o ks j O (H.put n (some (.arr 0 7 []))) (n + 1) ∧ Tl tg X ks n [] (H.put n (some (.arr 0 7 []))) (n + 1) := by
  have hC2 : Core pF pR L kb kW M ws tg X o ks j O (H.put n (some (.arr 0 7 []))) (n + 1) := hC.beside hB (by omega) fun k hk _ => Heap.put_ne _ _ (by omega)
  refine ⟨hC2, ⟨Heap.put_same _ _ _, ⟨0, 0, MineL.nil _ _ _, by omega⟩, by omega, ⟨Classical.byContradiction fun hne => (by have := hC.kp.lt.2.1 n hne; omega), fun h8 => (by have := (hC.xf n h8).2; omega)⟩, fun h9 => (by cases h9), fun k h9 => (by cases h9), fun d hd k h9 => ⟨fun e => (by have := SS.lt (hC.sl d hd) k h9; omega), fun h8 => (by cases h8)⟩⟩⟩
include hB in
theorem take_told (hC : Core pF pR L kb kW M ws tg X o ks j O H n) {ko : Nat} {xs : List LEnt} (hT : Tl tg X ks ko xs H n) (hsm : ∀ x ∈ xs.map (·.e), smallE x) (hxl : xs.length ≤ 2) (hM : M ≤ 900000000000) (hwl : ws.length < 1000000000) :
    ACalls Try.prog 36 [.loc kb 0 0 0 [], .osl ko xs.length 0 xs.length] H n fun res H' n' => res = .val (.tup []) ∧ n' = n ∧ ∃ tg', Core pF pR L kb kW (M + 6) (ws ++ [xs.map (·.e)]) tg' X o ks j O H' n ∧ (∀ k ∈ X, k ≠ kW → H' k = H k) ∧ (∀ k, tg k = .free → k ∉ X → H' k = H k) ∧ (∀ k, k ≠ ko → k ∉ xs.flatMap LEnt.ks → tg' k = tg k) ∧
      ∀ m, Ret Try.prog 22 [.osl ko xs.length 0 xs.length] H' m (entsAV (xs.map (·.e))) H' m := by
  obtain ⟨lo, hi, hm, hhi⟩ := hT.m
  have hkW : ko ≠ kW := fun e => hT.fr.2 (by rw [e]; exact hC.wX)
  refine (c_law_take kb kW M ws tg H n hC.kp ko xs.length lo hi xs hT.at' hm hhi hT.lt hT.fr.1 hkW hT.no (fun k hk => ⟨(hT.fk k hk).1, fun e => (hT.fk k hk).2 (by rw [e]; exact hC.wX)⟩) (fun x hx => hsm _ (List.mem_map_of_mem hx)) (by omega) (by omega) hwl).mono fun res H' n' ⟨h1, h2, ⟨tg', h3, h4⟩, h5⟩ => ?_
  subst h2
  have hfree : ∀ k, tg k = .free → k ∉ X → H' k = H k := fun k g1 g2 => h5 k g1 fun e => g2 (by rw [e]; exact hC.wX)
  refine ⟨h1, rfl, tg', hC.keep hB (Nat.le_refl _) (h3.mono (by omega)) (fun k _ g1 g2 => h5 k g1 g2) (fun d hd k hk => h4 k (hT.dis d hd k hk).1 (hT.dis d hd k hk).2) (fun k hk => h4 k (fun e => hT.fr.2 (by rw [← e]; exact hk)) fun h9 => (hT.fk k h9).2 hk), fun k hk hne => h5 k (hC.xf k hk).1 hne, hfree, h4, fun m => ?_⟩
  have hko := (hfree ko hT.fr.1 hT.fr.2).trans hT.at'
  have hbs : ∀ k ∈ xs.flatMap LEnt.ks, H' k = H k := fun k hk => hfree k (hT.fk k hk).1 (hT.fk k hk).2
  refine Ret.lives (L := ko :: xs.flatMap LEnt.ks) (fun k hk => ?_) fun hlt => l_ref3_CloneAll ⟨ko, xs.length, xs.map lentAV⟩ xs (by omega) (fun y hy => small_fits (hsm _ (List.mem_map_of_mem hy))) H' m ⟨hlt ko (by simp), hko, by simp, List.take_of_length_le (by simp), fun x hx => ok_at (hm.ok x hx) (fun k hk => hbs k (List.mem_flatMap.2 ⟨x, hx, hk⟩)) fun k hk => hlt k (List.mem_cons_of_mem _ (List.mem_flatMap.2 ⟨x, hx, hk⟩))⟩
  rcases List.mem_cons.1 hk with e | hk
  · rw [e]; exact ⟨_, hko⟩
  · obtain ⟨x, hx, hk9⟩ := List.mem_flatMap.1 hk
    obtain ⟨q, hq⟩ := mine_has (hm.all x hx) hk9
    exact ⟨q, (hbs k hk).trans hq⟩
end
theorem KpE.read {kb kW M : Nat} {ws : List (List Ent)} {tg : Nat → Tg} {H : Heap} {n : Nat} (h : KpE kb kW M ws tg H n) : ∃ (b : List AV) (vW : Nat), H kb = some (.arr 0 6 [.agg [.agg b, .osl kW vW 0 ws.length]]) ∧ H kW = some (.arr vW 1 (ws.map entsAV)) ∧ AV.szs b = 5 ∧ b.length = 5 := by
  obtain ⟨A, bs, es, vW, rfl, h⟩ := h
  exact ⟨_, vW, h.obj, h.was, rfl, rfl⟩
def outAV : Option (Nat × Nat) → AV
  | none => .nilsl
  | some (k, l) => .osl k l 0 l
theorem strip_out (g : Bool) (q : Option (Nat × Nat)) : strip g (outAV q) = outAV q := by rcases q with _ | ⟨k, l⟩ <;> cases g <;> rfl
theorem Went.out {pF : Wlk × KSt} {pR : Wlk × SSt} {L : List Ent} {c : Nat} {o : Option Nat} {ks : List Nat} {j : Nat} {O : List Ent} {H : Heap} {n : Nat} {a : AV} {H' : Heap} {n' : Nat} (h : Went pF pR L c o ks j O H n a H' n') : ∃ q, a = outAV q := by
  obtain ⟨_, _, _, _, _, _, h, _⟩ := h
  rcases h with ⟨e, _⟩ | ⟨ko, xs, e, _⟩
  · exact ⟨none, e⟩
  · exact ⟨some (ko, xs.length), e⟩
def apX (n kX : Nat) : List Nat := [n, n + 6, kX, kX + 1, kX + 2, kX + 3, kX + 4]
def apO (a b c d : Option Nat) : Nat → Option Nat := fun i => if i = 0 then a else if i = 1 then b else if i = 2 then c else d
theorem apO_f {a b c d : Option Nat} {i : Nat} (h : i < 2) : apO a b c d i = if i = 1 then b else a := by
  rcases i with _ | _ | i
  · rfl
  · rfl
  · omega
theorem apO_r {a b c d : Option Nat} {i : Nat} (h : ¬ i < 2) (h4 : i < 4) : apO a b c d i = if i = 3 then d else c := by
  rcases i with _ | _ | _ | _ | i
  · omega
  · omega
  · rfl
  · rfl
  · omega
theorem SS.olen {s : List Fml} {pF : Wlk × KSt} {pR : Wlk × SSt} (hB : Beg s pF pR) {L : List Ent} {c : Nat} {o : Option Nat} {ks : List Nat} {j : Nat} {O : List Ent} {H : Heap} {n : Nat} (h : SS pF pR L c o ks j O H n) : O.length ≤ 2 * j := by
  unfold SS at h
  split at h
  · rcases h with ⟨_, _, e⟩ | ⟨kf, _, _, e⟩
    · rw [e]; exact Nat.zero_le _
    · rw [e]; exact (fTr_ok hB.f L j).2.1
  · rcases h with ⟨_, _, e⟩ | ⟨kf, _, _, e⟩
    · rw [e]; exact Nat.zero_le _
    · rw [e]; exact (rTr_ok hB.r L j).2.1
def ApI (pF : Wlk × KSt) (pR : Wlk × SSt) (L : List Ent) (W : List (List Ent)) (n kX : Nat) (o : Nat → Option Nat) (ask : AV) (Hb : Heap) (J : Nat → Nat) (M B : Nat) (H : Heap) (n' : Nat) : Prop :=
  ∃ (ws : List (List Ent)) (tg : Nat → Tg) (ks : Nat → List Nat) (j : Nat → Nat) (O : Nat → List Ent) (v : Nat → Nat), (∀ d, d < 4 → j d = J d) ∧ Core pF pR L (n + 1) (n + 6) M (W ++ ws) tg (apX n kX) o ks j O H n' ∧ Outs kX v O H ∧ H n = some (.arr 0 7 [ask]) ∧
    (∀ k, k < n → H k = Hb k) ∧ (∀ k, k ≤ n → tg k = .free) ∧ (∀ c, c < 4 → ∀ k ∈ ks c, n < k) ∧ ws.length ≤ B ∧ ∀ w ∈ ws, w.length ≤ 2
theorem ApI.none {pF : Wlk × KSt} {pR : Wlk × SSt} {L : List Ent} {W : List (List Ent)} {n kX : Nat} {o : Nat → Option Nat} {ask : AV} {Hb : Heap} {J : Nat → Nat} {M B : Nat} {H : Heap} {n' : Nat} (h : ApI pF pR L W n kX o ask Hb J M B H n') {c : Nat} (ho : o c = none) {J' : Nat → Nat} (hJ : ∀ d, d ≠ c → J' d = J d) {M' B' : Nat} (hM : M ≤ M') (hB' : B ≤ B') : ApI pF pR L W n kX o ask Hb J' M' B' H n' := by
  obtain ⟨ws, tg, ks, j, O, v, hj, hC, hO, h1, h2, h3, h4, h5, h6⟩ := h
  refine ⟨ws, tg, ks, upd j c (J' c), O, v, fun d hd => ?_, ⟨hC.kp.mono hM, fun d hd => ?_, hC.ap, hC.fr, hC.xf, hC.wX⟩, hO, h1, h2, h3, h4, Nat.le_trans h5 hB', h6⟩
  · by_cases e : d = c
    · rw [e, upd_same]
    · rw [upd_ne _ _ e, hj d hd, hJ d e]
  · by_cases e : d = c
    · have h9 := hC.sl d hd
      rw [e, ho] at h9
      rw [e, upd_same, ho]
      exact (h9.none (J' c)).2.2
    · rw [upd_ne _ _ e]; exact hC.sl d hd
theorem ap_start {s : List Fml} {pF : Wlk × KSt} {pR : Wlk × SSt} (hB : Beg s pF pR) {L : List Ent} {W : List (List Ent)} {n M : Nat} {ask : AV} {H : Heap} {tg : Nat → Tg} {H0 F1 F2 F3 F4 : Heap} {n0 f1 f2 f3 kX : Nat} {of og orr oq : Option Nat} {ks0 ks1 ks2 ks3 : List Nat}
    (hQ : KpE (n + 1) (n + 6) M (W ++ []) tg H0 n0) (hn9 : n + 6 < n0) (htf : ∀ k, k ≤ n → tg k = .free) (hf1 : n0 ≤ f1) (hz1 : ∀ k, k < n0 → F1 k = H0 k) (hS0 : SlotF pF L of ks0 0 [] F1 f1) (hk0 : ∀ k ∈ ks0, n0 ≤ k) (hf2 : f1 ≤ f2) (hz2 : ∀ k, k < f1 → F2 k = F1 k) (hS1 : SlotF pF L og ks1 0 [] F2 f2) (hk1 : ∀ k ∈ ks1, f1 ≤ k)
    (hf3 : f2 ≤ f3) (hz3 : ∀ k, k < f2 → F3 k = F2 k) (hS2 : SlotR pR L orr ks2 0 [] F3 f3) (hk2 : ∀ k ∈ ks2, f2 ≤ k) (hf4 : f3 ≤ kX) (hz4 : ∀ k, k < f3 → F4 k = F3 k) (hS3 : SlotR pR L oq ks3 0 [] F4 kX) (hk3 : ∀ k ∈ ks3, f3 ≤ k) (hask : F4 n = some (.arr 0 7 [ask])) (hlow : ∀ k, k < n → F4 k = H k)
    {G : Heap} (hG : ∀ k, k < kX → G k = F4 k) (hox : G kX = some (.arr 0 4 [.agg [.osl (kX + 1) 0 0 0, .osl (kX + 2) 0 0 0, .osl (kX + 3) 0 0 0, .osl (kX + 4) 0 0 0]])) (h1 : G (kX + 1) = some (.arr 0 7 [])) (h2 : G (kX + 2) = some (.arr 0 7 [])) (h3 : G (kX + 3) = some (.arr 0 7 [])) (h4 : G (kX + 4) = some (.arr 0 7 [])) {n' : Nat} (hn' : kX + 5 ≤ n') :
    ApI pF pR L W n kX (apO of og orr oq) ask H (fun _ => 0) M 0 G n' := by
  have l0 := SS.lt (c := 0) (pF := pF) (pR := pR) (by rw [ssF (by omega)]; exact hS0)
  have l1 := SS.lt (c := 0) (pF := pF) (pR := pR) (by rw [ssF (by omega)]; exact hS1)
  have l2 := SS.lt (c := 2) (pF := pF) (pR := pR) (by rw [ssR (by omega)]; exact hS2)
  have l3 := SS.lt (c := 2) (pF := pF) (pR := pR) (by rw [ssR (by omega)]; exact hS3)
  have g3 : ∀ k, k < f3 → G k = F3 k := fun k hk => (hG k (by omega)).trans (hz4 k hk)
  have g2 : ∀ k, k < f2 → G k = F2 k := fun k hk => (g3 k (by omega)).trans (hz3 k hk)
  have g1 : ∀ k, k < f1 → G k = F1 k := fun k hk => (g2 k (by omega)).trans (hz2 k hk)
  have g0 : ∀ k, k < n0 → G k = H0 k := fun k hk => (g1 k (by omega)).trans (hz1 k hk)
  obtain ⟨q1, q2, q3, q4⟩ := hQ.lt
  have fre : ∀ k, n0 ≤ k → tg k = .free := fun k hk => Classical.byContradiction fun hne => by have := q2 k hne; omega
  refine ⟨[], tg, fun i => if i = 0 then ks0 else if i = 1 then ks1 else if i = 2 then ks2 else ks3, fun _ => 0, fun _ => [], fun _ => 0, fun _ _ => rfl, ⟨hQ.frame (by omega) (g0 _ q1) fun k hk => g0 k (q2 k hk), fun c hc => ?_, fun c d hc hd hne k hk => ?_, fun c hc k hk => ?_, fun k hk => ?_, by simp [apX]⟩, ⟨hox, fun c hc => ?_⟩, (hG n (by omega)).trans hask, fun k hk => (hG k (by omega)).trans (hlow k hk), htf, fun c hc k hk => ?_, Nat.le_refl _, fun w hw => by cases hw⟩
  · rcases c with _ | _ | _ | _ | c
    · exact SS.frame hB (c := 0) (by rw [ssF (by omega)]; exact hS0) (by omega) fun k hk => g1 k (l0 k hk)
    · exact SS.frame hB (c := 1) (by rw [ssF (by omega)]; exact hS1) (by omega) fun k hk => g2 k (l1 k hk)
    · exact SS.frame hB (c := 2) (by rw [ssR (by omega)]; exact hS2) (by omega) fun k hk => g3 k (l2 k hk)
    · exact SS.frame hB (c := 3) (by rw [ssR (by omega)]; exact hS3) (by omega) fun k hk => hG k (l3 k hk)
    · omega
  · have key : ∀ c, c < 4 → ∀ k, k ∈ (if c = 0 then ks0 else if c = 1 then ks1 else if c = 2 then ks2 else ks3) → (c = 0 ∧ n0 ≤ k ∧ k < f1) ∨ (c = 1 ∧ f1 ≤ k ∧ k < f2) ∨ (c = 2 ∧ f2 ≤ k ∧ k < f3) ∨ (c = 3 ∧ f3 ≤ k ∧ k < kX) := by
      intro c hc k hk
      rcases c with _ | _ | _ | _ | c
      · exact .inl ⟨rfl, hk0 k hk, l0 k hk⟩
      · exact .inr (.inl ⟨rfl, hk1 k hk, l1 k hk⟩)
      · exact .inr (.inr (.inl ⟨rfl, hk2 k hk, l2 k hk⟩))
      · exact .inr (.inr (.inr ⟨rfl, hk3 k hk, l3 k hk⟩))
      · omega
    intro h9
    have a1 := key c hc k hk
    have a2 := key d hd k h9
    omega
  · have key : n0 ≤ k ∧ k < kX := by
      rcases c with _ | _ | _ | _ | c
      · have := hk0 k hk; have := l0 k hk; omega
      · have := hk1 k hk; have := l1 k hk; omega
      · have := hk2 k hk; have := l2 k hk; omega
      · have := hk3 k hk; have := l3 k hk; omega
      · omega
    refine ⟨fre k key.1, fun h9 => ?_⟩
    simp only [apX, List.mem_cons, List.not_mem_nil, or_false] at h9
    omega
  · simp only [apX, List.mem_cons, List.not_mem_nil, or_false] at hk
    rcases hk with rfl | rfl | hk
    · exact ⟨htf _ (Nat.le_refl _), by omega⟩
    · exact ⟨q3, by omega⟩
    · exact ⟨fre k (by omega), by omega⟩
  · rcases c with _ | _ | _ | _ | c
    · exact h1
    · exact h2
    · exact h3
    · exact h4
    · omega
  · have key : n0 ≤ k := by
      rcases c with _ | _ | _ | _ | c
      · have := hk0 k hk; omega
      · have := hk1 k hk; omega
      · have := hk2 k hk; omega
      · have := hk3 k hk; omega
      · omega
    omega
theorem apJ {c i d : Nat} (hd : d ≠ c) : (if d < c + 1 then i + 1 else i) = (if d < c then i + 1 else i) := by split <;> split <;> omega
end Go.Proofs.Ytijhkfhflpmajaa
namespace Go.Proofs.Ytijhkfhflpmajaa
open Go Go.Sx Go.Rt Go.Proofs
def ap25 (A B : List (List Ent)) : List (List Ent) := A ++ A ++ B ++ B ++ A
theorem ap25_at (s : List Fml) (clock t vn : Int) (l m : List Ent) (ws : List (List Ent)) {i : Nat} (hi : i < 5) :
    (ap25 (callsE s clock t vn l) (callsE s clock t vn m) ++ ws).getD i [] = (callsE s clock t vn l).getD i [] ∧ (ap25 (callsE s clock t vn l) (callsE s clock t vn m) ++ ws).getD (i + 5) [] = (callsE s clock t vn l).getD i [] ∧ (ap25 (callsE s clock t vn l) (callsE s clock t vn m) ++ ws).getD (i + 10) [] = (callsE s clock t vn m).getD i [] ∧ (ap25 (callsE s clock t vn l) (callsE s clock t vn m) ++ ws).getD (i + 15) [] = (callsE s clock t vn m).getD i [] ∧ (ap25 (callsE s clock t vn l) (callsE s clock t vn m) ++ ws).getD (i + 20) [] = (callsE s clock t vn l).getD i [] := by
  rcases i with _ | _ | _ | _ | _ | i
  · exact ⟨rfl, rfl, rfl, rfl, rfl⟩
  · exact ⟨rfl, rfl, rfl, rfl, rfl⟩
  · exact ⟨rfl, rfl, rfl, rfl, rfl⟩
  · exact ⟨rfl, rfl, rfl, rfl, rfl⟩
  · exact ⟨rfl, rfl, rfl, rfl, rfl⟩
  · omega
theorem ap10_at (s : List Fml) (clock t vn : Int) (l m : List Ent) {i : Nat} (hi : i < 5) :
    (callsE s clock t vn l ++ callsE s clock t vn m).getD i [] = (callsE s clock t vn l).getD i [] ∧ (callsE s clock t vn l ++ callsE s clock t vn m).getD (i + 5) [] = (callsE s clock t vn m).getD i [] := by
  rcases i with _ | _ | _ | _ | _ | i
  · exact ⟨rfl, rfl⟩
  · exact ⟨rfl, rfl⟩
  · exact ⟨rfl, rfl⟩
  · exact ⟨rfl, rfl⟩
  · exact ⟨rfl, rfl⟩
  · omega
set_option maxRecDepth 100000 in
set_option maxHeartbeats 6400000 in
theorem c_law_RetainApart (k0 : Int) (s : List Fml) (hs : s.length ≤ 1048576) (clock t vn : Int) (mj : Bool) (l m : List Ent) (hl : l.length ≤ 1048576) (hml : m.length ≤ 1048576) (hf : ∀ e ∈ l, e.fits) (H : Heap) (n : Nat) : Ret Try.prog 10 [oAV k0 s clock t vn mj l, entsAV m] H n (.bool true) H n := by
  have r2 : (0 : Nat) = 0 := rfl
  refine Ret.fin ?_
  refine acalls_of_awp Try.func10 rfl Try.ntmps10 (congrArg Array.toList Try.results10) (by simp) ?_
  simp only [go_sem]
  refine awp_reg zs [1, 2] fun K hK => ?_
  try simp only [go_sem, seval, r2, strip_ptr, strip_out, oAV]
  repeat refine peel ?_
  refine hK _ _ _ ?_; clear hK K
  refine awp_reg zs [1, 2, 5] fun K hK => ?_
  try simp only [go_sem, seval, r2, strip_ptr, strip_out]
  repeat refine peel ?_
  refine callK_use Try.func11 rfl rfl rfl ((c_law_started _ _)) ?_
  try simp only [go_sem, seval, r2, strip_ptr, strip_out]
  repeat refine peel ?_
  refine hK _ _ _ ?_; clear hK K
  refine awp_reg zs [1, 2, 5, 6] fun K hK => ?_
  try simp only [go_sem, seval, r2, strip_ptr, strip_out]
  repeat refine peel ?_
  refine hK _ _ _ ?_; clear hK K
  refine awp_adopt_obj (n + 1) 1 (els' := [.agg [.agg [.osl (n + 2) 0 0 0, .nilsl, .nilsl, .nilsl, .nilsl], .nilsl]]) (Heap.put_same _ _ _) ⟨Adp.agg ⟨Adp.agg ⟨Adp.nilsl _, .refl _ _, .refl _ _, .refl _ _, .refl _ _, trivial⟩, .refl _ _, trivial⟩, trivial⟩ ?_
  refine awp_adopt_obj (n + 1) 1 (els' := [.agg [.agg [.osl (n + 2) 0 0 0, .osl (n + 3) 0 0 0, .nilsl, .nilsl, .nilsl], .nilsl]]) (Heap.put_same _ _ _) ⟨Adp.agg ⟨Adp.agg ⟨.refl _ _, Adp.nilsl _, .refl _ _, .refl _ _, .refl _ _, trivial⟩, .refl _ _, trivial⟩, trivial⟩ ?_
  refine awp_adopt_obj (n + 1) 1 (els' := [.agg [.agg [.osl (n + 2) 0 0 0, .osl (n + 3) 0 0 0, .osl (n + 4) 0 0 0, .nilsl, .nilsl], .nilsl]]) (Heap.put_same _ _ _) ⟨Adp.agg ⟨Adp.agg ⟨.refl _ _, .refl _ _, Adp.nilsl _, .refl _ _, .refl _ _, trivial⟩, .refl _ _, trivial⟩, trivial⟩ ?_
  refine awp_adopt_obj (n + 1) 1 (els' := [.agg [.agg [.osl (n + 2) 0 0 0, .osl (n + 3) 0 0 0, .osl (n + 4) 0 0 0, .osl (n + 5) 0 0 0, .nilsl], .nilsl]]) (Heap.put_same _ _ _) ⟨Adp.agg ⟨Adp.agg ⟨.refl _ _, .refl _ _, .refl _ _, Adp.nilsl _, .refl _ _, trivial⟩, .refl _ _, trivial⟩, trivial⟩ ?_
  refine awp_adopt_obj (n + 1) 1 (els' := [.agg [.agg [.osl (n + 2) 0 0 0, .osl (n + 3) 0 0 0, .osl (n + 4) 0 0 0, .osl (n + 5) 0 0 0, .nilsl], .osl (n + 6) 0 0 0]]) (Heap.put_same _ _ _) ⟨Adp.agg ⟨.refl _ _, Adp.nilsl _, trivial⟩, trivial⟩ ?_
  refine awp_reg zs [1, 2, 5, 6] fun K hK => ?_
  try simp only [go_sem, seval, r2, strip_ptr, strip_out, (show (n = n + 1) = False by simp), (show (n = n + 1 + 1) = False by simp; omega), (show (n = n + 1 + 1 + 1) = False by simp; omega), (show (n = n + 1 + 1 + 1 + 1) = False by simp; omega), (show (n = n + 1 + 1 + 1 + 1 + 1) = False by simp; omega), (show (n = n + 1 + 1 + 1 + 1 + 1 + 1) = False by simp; omega), (show (n = n + 2) = False by simp), (show (n = n + 3) = False by simp), (show (n = n + 4) = False by simp), (show (n = n + 5) = False by simp), (show (n = n + 6) = False by simp)]
  repeat refine peel ?_
  refine callK_useK (args' := [.loc (n + 1) 0 0 0 [], oAV k0 s clock t vn mj l, entsAV l]) Try.func28 rfl rfl rfl (c_law_calls (n + 1) (n + 6) 0 [] (tg5 n) _ _ (kp0 (by simp [Heap.put, Nat.add_assoc]) (by simp [Heap.put, Nat.add_assoc]) (by simp [Heap.put, Nat.add_assoc]) (by simp [Heap.put, Nat.add_assoc]) (by simp [Heap.put, Nat.add_assoc]) (by simp [Heap.put, Nat.add_assoc]) (by omega)) k0 s clock t vn mj l l (by omega) (by omega) (by simp [callsE])) ?_ ?_
  rotate_left
  · intro p H' n' h; cases h.1
  rintro rr G1 m1 ⟨hr2, hn1, ⟨ta1, hQ1, ht1⟩, hl1⟩
  cases hr2
  have e1 : ∀ k, k ≤ n → ta1 k = .free := fun k hk => (ht1 k (by omega)).trans (tg5_free (.inl hk))
  have lo1 : ∀ k, k < n → G1 k = H k := fun k hk => (hl1 k (by omega) (tg5_free (.inl (by omega))) (by omega)).trans (by rw [Heap.put_ne _ _ (by omega), Heap.put_ne _ _ (by omega), Heap.put_ne _ _ (by omega), Heap.put_ne _ _ (by omega), Heap.put_ne _ _ (by omega), Heap.put_ne _ _ (by omega), Heap.put_ne _ _ (by omega), Heap.put_ne _ _ (by omega), Heap.put_ne _ _ (by omega), Heap.put_ne _ _ (by omega), Heap.put_ne _ _ (by omega), Heap.put_ne _ _ (by omega)])
  have r2 : G1 n = some (.arr 0 7 [oAV k0 s clock t vn mj l]) := (hl1 n (by omega) (tg5_free (.inl (Nat.le_refl _))) (by omega)).trans (by simp [Heap.put, Nat.add_assoc, oAV, schAV, entsAV])
  simp only [oAV, schAV, entsAV] at r2
  try simp only [go_sem, seval, r2, strip_ptr, strip_out, (show (n = n + 1) = False by simp), (show (n = n + 1 + 1) = False by simp; omega), (show (n = n + 1 + 1 + 1) = False by simp; omega), (show (n = n + 1 + 1 + 1 + 1) = False by simp; omega), (show (n = n + 1 + 1 + 1 + 1 + 1) = False by simp; omega), (show (n = n + 1 + 1 + 1 + 1 + 1 + 1) = False by simp; omega), (show (n = n + 2) = False by simp), (show (n = n + 3) = False by simp), (show (n = n + 4) = False by simp), (show (n = n + 5) = False by simp), (show (n = n + 6) = False by simp)]
  repeat refine peel ?_
  refine hK _ _ _ ?_; clear hK K
  refine awp_reg zs [1, 2, 5, 6] fun K hK => ?_
  try simp only [go_sem, seval, r2, strip_ptr, strip_out]
  repeat refine peel ?_
  refine callK_useK (args' := [.loc (n + 1) 0 0 0 [], oAV k0 s clock t vn mj l, entsAV l]) Try.func28 rfl rfl rfl (c_law_calls (n + 1) (n + 6) (0 + 300000015) ([] ++ (callsE s clock t vn l)) ta1 _ _ hQ1 k0 s clock t vn mj l l (by omega) (by omega) (by simp [callsE])) ?_ ?_
  rotate_left
  · intro p H' n' h; cases h.1
  rintro rr G2 m2 ⟨hr2, hn2, ⟨ta2, hQ2, ht2⟩, hl2⟩
  cases hr2
  have e2 : ∀ k, k ≤ n → ta2 k = .free := fun k hk => (ht2 k (by omega)).trans (e1 k hk)
  have lo2 : ∀ k, k < n → G2 k = H k := fun k hk => (hl2 k (by omega) (e1 k (by omega)) (by omega)).trans (lo1 k hk)
  have r2 := (hl2 n (by omega) (e1 n (Nat.le_refl _)) (by omega)).trans r2
  try simp only [go_sem, seval, r2, strip_ptr, strip_out]
  repeat refine peel ?_
  refine hK _ _ _ ?_; clear hK K
  refine awp_reg zs [1, 2, 5, 6] fun K hK => ?_
  try simp only [go_sem, seval, r2, strip_ptr, strip_out]
  repeat refine peel ?_
  refine callK_useK (args' := [.loc (n + 1) 0 0 0 [], oAV k0 s clock t vn mj l, entsAV m]) Try.func28 rfl rfl rfl (c_law_calls (n + 1) (n + 6) (0 + 300000015 + 300000015) ([] ++ (callsE s clock t vn l) ++ (callsE s clock t vn l)) ta2 _ _ hQ2 k0 s clock t vn mj l m (by omega) (by omega) (by simp [callsE])) ?_ ?_
  rotate_left
  · intro p H' n' h; cases h.1
  rintro rr G3 m3 ⟨hr2, hn3, ⟨ta3, hQ3, ht3⟩, hl3⟩
  cases hr2
  have e3 : ∀ k, k ≤ n → ta3 k = .free := fun k hk => (ht3 k (by omega)).trans (e2 k hk)
  have lo3 : ∀ k, k < n → G3 k = H k := fun k hk => (hl3 k (by omega) (e2 k (by omega)) (by omega)).trans (lo2 k hk)
  have r2 := (hl3 n (by omega) (e2 n (Nat.le_refl _)) (by omega)).trans r2
  try simp only [go_sem, seval, r2, strip_ptr, strip_out]
  repeat refine peel ?_
  refine hK _ _ _ ?_; clear hK K
  refine awp_reg zs [1, 2, 5, 6] fun K hK => ?_
  try simp only [go_sem, seval, r2, strip_ptr, strip_out]
  repeat refine peel ?_
  refine callK_useK (args' := [.loc (n + 1) 0 0 0 [], oAV k0 s clock t vn mj l, entsAV m]) Try.func28 rfl rfl rfl (c_law_calls (n + 1) (n + 6) (0 + 300000015 + 300000015 + 300000015) ([] ++ (callsE s clock t vn l) ++ (callsE s clock t vn l) ++ (callsE s clock t vn m)) ta3 _ _ hQ3 k0 s clock t vn mj l m (by omega) (by omega) (by simp [callsE])) ?_ ?_
  rotate_left
  · intro p H' n' h; cases h.1
  rintro rr G4 m4 ⟨hr2, hn4, ⟨ta4, hQ4, ht4⟩, hl4⟩
  cases hr2
  have e4 : ∀ k, k ≤ n → ta4 k = .free := fun k hk => (ht4 k (by omega)).trans (e3 k hk)
  have lo4 : ∀ k, k < n → G4 k = H k := fun k hk => (hl4 k (by omega) (e3 k (by omega)) (by omega)).trans (lo3 k hk)
  have r2 := (hl4 n (by omega) (e3 n (Nat.le_refl _)) (by omega)).trans r2
  try simp only [go_sem, seval, r2, strip_ptr, strip_out]
  repeat refine peel ?_
  refine hK _ _ _ ?_; clear hK K
  refine awp_reg zs [1, 2, 5, 6] fun K hK => ?_
  try simp only [go_sem, seval, r2, strip_ptr, strip_out]
  repeat refine peel ?_
  refine callK_useK (args' := [.loc (n + 1) 0 0 0 [], oAV k0 s clock t vn mj l, entsAV l]) Try.func28 rfl rfl rfl (c_law_calls (n + 1) (n + 6) (0 + 300000015 + 300000015 + 300000015 + 300000015) ([] ++ (callsE s clock t vn l) ++ (callsE s clock t vn l) ++ (callsE s clock t vn m) ++ (callsE s clock t vn m)) ta4 _ _ hQ4 k0 s clock t vn mj l l (by omega) (by omega) (by simp [callsE])) ?_ ?_
  rotate_left
  · intro p H' n' h; cases h.1
  rintro rr G5 m5 ⟨hr2, hn5, ⟨ta5, hQ5, ht5⟩, hl5⟩
  cases hr2
  have e5 : ∀ k, k ≤ n → ta5 k = .free := fun k hk => (ht5 k (by omega)).trans (e4 k hk)
  have lo5 : ∀ k, k < n → G5 k = H k := fun k hk => (hl5 k (by omega) (e4 k (by omega)) (by omega)).trans (lo4 k hk)
  have r2 := (hl5 n (by omega) (e4 n (Nat.le_refl _)) (by omega)).trans r2
  have hQ : KpE (n + 1) (n + 6) 1500000075 (ap25 (callsE s clock t vn l) (callsE s clock t vn m) ++ []) ta5 G5 m5 := by have h9 := hQ5; simp only [List.nil_append] at h9; rw [List.append_nil]; exact h9.mono (by omega)
  obtain ⟨bk9, vW, hob, hW, hbs, hbl⟩ := hQ.read
  have hwl : (ap25 (callsE s clock t vn l) (callsE s clock t vn m) ++ []).length = 25 := rfl
  have hsm : ∀ (E : List Ent) (q : Nat), E.length < 4611686018427387904 → Ret Try.prog 18 [entsAV E, entsAV E] G5 q (.bool true) G5 q := fun E q hE => by have h9 := c_ref3_SameAll E E hE G5 q; rw [show decide (E = E) = true by simp] at h9; exact h9
  have hElen : ∀ (z : List Ent), z.length ≤ 1048576 → ∀ i, i < 5 → ((callsE s clock t vn z).getD i []).length < 4611686018427387904 := fun z hz i hi => by have := (callsE_ok s clock t vn z (by omega) ((callsE s clock t vn z).getD i []) (by rw [List.getD, List.getElem?_eq_getElem (show i < (callsE s clock t vn z).length from hi)]; exact List.getElem_mem _)).2; omega
  have hn9 := hQ.lt.1
  try simp only [go_sem, seval, r2, strip_ptr, strip_out]
  repeat refine peel ?_
  refine hK _ _ _ ?_; clear hK K
  refine awp_seq_k fun K1 hK1 => ?_
  refine awp_reg zs [1, 2, 5, 6, 7] fun K hK => ?_
  try simp only [go_sem, seval, r2, strip_ptr, strip_out]
  repeat refine peel ?_
  refine hK _ _ _ ?_; clear hK K
  refine awp_block ?_
  refine awp_loop (fun T' H' n' => ∃ (i : Nat), i ≤ 5 ∧ T' = tl [(1, .sl 7 (m.map entAV)), (2, .loc n 0 0 0 []), (5, .bool true), (6, .loc (n + 1) 0 0 0 []), (7, .int .i64 i)] ∧ H' = G5 ∧ n' = m5) (fun T' _ _ => 5 - iv (T' 7)) ?_ ?_
  ·skip
   exact ⟨0, by omega, rfl, rfl, rfl⟩
  intro T1 H1 n1
  rintro ⟨i, hi, rfl, rfl, rfl⟩
  refine awp_seq_k fun K2 hK2 => ?_
  refine awp_reg zs [1, 2, 5, 6, 7, 53] fun K hK => ?_
  try simp only [go_sem, seval, r2, strip_ptr, strip_out]
  repeat refine peel ?_
  refine hK _ _ _ ?_; clear hK K
  refine awp_cnd (fun hb => ?_) (fun hb => ?_)
  ·skip
   have hi5 : i < 5 := by have := of_decide_eq_true hb; omega
   obtain ⟨a0, a5, a10, a15, a20⟩ := ap25_at s clock t vn l m [] hi5
   have hE1 := hElen l hl i hi5
   have hE2 := hElen m hml i hi5
   have q0 : nth ((ap25 (callsE s clock t vn l) (callsE s clock t vn m) ++ []).map entsAV) i = entsAV ((callsE s clock t vn l).getD i []) := by rw [nth_map entsAV _ i (by rw [hwl]; omega), ← a0]; rfl
   have q5 : nth ((ap25 (callsE s clock t vn l) (callsE s clock t vn m) ++ []).map entsAV) (i + 5) = entsAV ((callsE s clock t vn l).getD i []) := by rw [nth_map entsAV _ (i + 5) (by rw [hwl]; omega), ← a5]; rfl
   have q10 : nth ((ap25 (callsE s clock t vn l) (callsE s clock t vn m) ++ []).map entsAV) (i + 10) = entsAV ((callsE s clock t vn m).getD i []) := by rw [nth_map entsAV _ (i + 10) (by rw [hwl]; omega), ← a10]; rfl
   have q15 : nth ((ap25 (callsE s clock t vn l) (callsE s clock t vn m) ++ []).map entsAV) (i + 15) = entsAV ((callsE s clock t vn m).getD i []) := by rw [nth_map entsAV _ (i + 15) (by rw [hwl]; omega), ← a15]; rfl
   have q20 : nth ((ap25 (callsE s clock t vn l) (callsE s clock t vn m) ++ []).map entsAV) (i + 20) = entsAV ((callsE s clock t vn l).getD i []) := by rw [nth_map entsAV _ (i + 20) (by rw [hwl]; omega), ← a20]; rfl
   generalize (callsE s clock t vn l).getD i [] = E1 at *
   generalize (callsE s clock t vn m).getD i [] = E2 at *
   have w5 : IntKind.i64.wrap ((i : Int) + 5) = ((i + 5 : Nat) : Int) := w64 (by omega) (by omega)
   have w10 : IntKind.i64.wrap ((i : Int) + 10) = ((i + 10 : Nat) : Int) := w64 (by omega) (by omega)
   have w15 : IntKind.i64.wrap ((i : Int) + 15) = ((i + 15 : Nat) : Int) := w64 (by omega) (by omega)
   have w20 : IntKind.i64.wrap ((i : Int) + 20) = ((i + 20 : Nat) : Int) := w64 (by omega) (by omega)
   have l5 : i + 5 < (List.map entsAV (ap25 (callsE s clock t vn l) (callsE s clock t vn m) ++ [])).length := by rw [List.length_map, hwl]; omega
   have l10 : i + 10 < (List.map entsAV (ap25 (callsE s clock t vn l) (callsE s clock t vn m) ++ [])).length := by rw [List.length_map, hwl]; omega
   have l15 : i + 15 < (List.map entsAV (ap25 (callsE s clock t vn l) (callsE s clock t vn m) ++ [])).length := by rw [List.length_map, hwl]; omega
   have l20 : i + 20 < (List.map entsAV (ap25 (callsE s clock t vn l) (callsE s clock t vn m) ++ [])).length := by rw [List.length_map, hwl]; omega
   have l0 : i < (List.map entsAV (ap25 (callsE s clock t vn l) (callsE s clock t vn m) ++ [])).length := by rw [List.length_map, hwl]; omega
   refine awp_skip ?_
   try simp only [go_sem, seval, r2, strip_ptr, strip_out]
   refine hK2 _ _ _ ?_
   first | clear hK2 K2 | skip
   refine awp_seq_k fun K3 hK3 => ?_
   refine awp_block ?_
   refine awp_drw rfl zs [1, 2, 5, 6, 7, 111] [.m, .q, .q, .q, .m, .q, .q, .m, .q, .q, .q, .m, .q, .q, .q, .c, .q, .m, .m, .q, .q, .q, .m, .q, .q, .m, .q, .q, .q, .m, .q, .q, .q, .c, .q, .q, .m, .m, .q, .q, .q, .m, .q, .q, .q, .m, .q, .q, .q, .m, .q, .q, .q, .c, .q, .q] (by kernel_rfl) (fun _ _ _ _ _ h => h) fun K hK => ?_
   try simp only [go_sem, seval, r2, strip_ptr, strip_out, Bool.false_or, Bool.or_true, cond_true, hob, hW, hbs, hbl, hwl, w5, w10, w15, w20, q0, q5, q10, q15, q20, Int.toNat_natCast, show (!true) = false from rfl, show (false == false) = true from rfl, true_implies, forall_const]
   repeat (first | (refine And.intro ?_ ?_; · first | assumption | exact ⟨rfl, by omega, by omega⟩ | exact ⟨by omega, by omega⟩ | (simp; omega) | omega | (intro _; omega)) | refine peel ?_)
   refine callQG_use Try.func18 rfl rfl rfl (fun _ n => (hsm E1 _ hE1)) ?_
   try simp only [go_sem, seval, r2, strip_ptr, strip_out, Bool.false_or, Bool.or_true, cond_true, hob, hW, hbs, hbl, hwl, w5, w10, w15, w20, q0, q5, q10, q15, q20, Int.toNat_natCast, show (!true) = false from rfl, show (false == false) = true from rfl, true_implies, forall_const]
   repeat (first | (refine And.intro ?_ ?_; · first | assumption | exact ⟨rfl, by omega, by omega⟩ | exact ⟨by omega, by omega⟩ | (simp; omega) | omega | (intro _; omega)) | refine peel ?_)
   refine callQG_use Try.func18 rfl rfl rfl (fun _ n => (hsm E1 _ hE1)) ?_
   try simp only [go_sem, seval, r2, strip_ptr, strip_out, Bool.false_or, Bool.or_true, cond_true, hob, hW, hbs, hbl, hwl, w5, w10, w15, w20, q0, q5, q10, q15, q20, Int.toNat_natCast, show (!true) = false from rfl, show (false == false) = true from rfl, true_implies, forall_const]
   repeat (first | (refine And.intro ?_ ?_; · first | assumption | exact ⟨rfl, by omega, by omega⟩ | exact ⟨by omega, by omega⟩ | (simp; omega) | omega | (intro _; omega)) | refine peel ?_)
   refine callQG_use Try.func18 rfl rfl rfl (fun _ n => (hsm E2 _ hE2)) ?_
   try simp only [go_sem, seval, r2, strip_ptr, strip_out, Bool.false_or, Bool.or_true, cond_true, hob, hW, hbs, hbl, hwl, w5, w10, w15, w20, q0, q5, q10, q15, q20, Int.toNat_natCast, show (!true) = false from rfl, show (false == false) = true from rfl, true_implies, forall_const]
   repeat (first | (refine And.intro ?_ ?_; · first | assumption | exact ⟨rfl, by omega, by omega⟩ | exact ⟨by omega, by omega⟩ | (simp; omega) | omega | (intro _; omega)) | refine peel ?_)
   refine hK _ _ _ ?_; clear hK K
   refine awp_cnd (fun hb => ?_) (fun hb => ?_)
   ·skip
    exact absurd hb (by decide)
    --dead
   ·skip
    refine awp_skip ?_
    try simp only [go_sem, seval, r2, strip_ptr, strip_out]
    refine hK3 _ _ _ ?_
    first | clear hK3 K3 | skip
    refine awp_reg1 zs [1, 2, 5, 6, 7] fun K hK => ?_
    try simp only [go_sem, seval, r2, strip_ptr, strip_out]
    repeat refine peel ?_
    refine hK _ _ _ ?_; clear hK K
    try simp only [go_sem, seval, r2, strip_ptr, strip_out]
    exact ⟨⟨i + 1, by omega, by rw [w1 (by omega)]⟩, by rw [w1 (by omega)]; simp; omega⟩
  ·skip
   have hLl := (sortE_S l).2
   have hLf : ∀ e ∈ (sortE l).1, e.fits := fun e he => small_fits ((sortE_S l).1 e he)
   refine awp_exit ?_
   try simp only [go_sem, seval, r2, strip_ptr, strip_out]
   refine hK1 _ _ _ ?_
   first | clear hK1 K1 | skip
   refine awp_reg zs [1, 2, 5, 6, 8] fun K hK => ?_
   try simp only [go_sem, seval, r2, strip_ptr, strip_out]
   repeat refine peel ?_
   refine callK_use Try.func23 rfl rfl rfl ((by apply c_retain_Sort <;> first | assumption | omega)) ?_
   try simp only [go_sem, seval, r2, strip_ptr, strip_out]
   repeat refine peel ?_
   refine hK _ _ _ ?_; clear hK K
   generalize (sortE l).1 = L at *
   refine awp_reg zs [1, 2, 5, 6, 8, 10, 11] fun K hK => ?_
   try simp only [go_sem, seval, r2, strip_ptr, strip_out]
   repeat refine peel ?_
   refine callK_useK (args' := [schAV s, .int .i64 clock, .bool mj, .int .i64 t]) Try.func29 rfl rfl rfl (ap_newF s (by omega) clock t mj L _ _) ?_ ?_
   rotate_left
   · intro p H' n' h; obtain ⟨_, _, _, _, hx, _⟩ := h; cases hx
   rintro rr F1 f1 ⟨hf1, hz1, of, ks0, hr2, hof, hS0, hk0⟩
   cases hr2
   have r2 := (hz1 n (by omega)).trans r2
   try simp only [go_sem, seval, r2, strip_ptr, strip_out]
   repeat refine peel ?_
   refine hK _ _ _ ?_; clear hK K
   refine awp_reg zs [1, 2, 5, 6, 8, 10, 11, 12] fun K hK => ?_
   try simp only [go_sem, seval, r2, strip_ptr, strip_out]
   repeat refine peel ?_
   refine callK_useK (args' := [schAV s, .int .i64 clock, .bool mj, .int .i64 t]) Try.func29 rfl rfl rfl (ap_newF s (by omega) clock t mj L _ _) ?_ ?_
   rotate_left
   · intro p H' n' h; obtain ⟨_, _, _, _, hx, _⟩ := h; cases hx
   rintro rr F2 f2 ⟨hf2, hz2, og, ks1, hr2, hog, hS1, hk1⟩
   cases hr2
   have r2 := (hz2 n (by omega)).trans r2
   try simp only [go_sem, seval, r2, strip_ptr, strip_out]
   repeat refine peel ?_
   refine hK _ _ _ ?_; clear hK K
   refine awp_reg zs [1, 2, 5, 6, 8, 10, 11, 12, 14, 15] fun K hK => ?_
   try simp only [go_sem, seval, r2, strip_ptr, strip_out]
   repeat refine peel ?_
   refine callK_useK (args' := [schAV s, .int .i64 clock, .int .i64 t, .int .i64 vn]) Try.func30 rfl rfl rfl (ap_newR s (by omega) clock t vn L _ _) ?_ ?_
   rotate_left
   · intro p H' n' h; obtain ⟨_, _, _, _, hx, _⟩ := h; cases hx
   rintro rr F3 f3 ⟨hf3, hz3, orr, ks2, hr2, hor, hS2, hk2⟩
   cases hr2
   have r2 := (hz3 n (by omega)).trans r2
   try simp only [go_sem, seval, r2, strip_ptr, strip_out]
   repeat refine peel ?_
   refine hK _ _ _ ?_; clear hK K
   refine awp_reg zs [1, 2, 5, 6, 8, 10, 11, 12, 14, 15, 16] fun K hK => ?_
   try simp only [go_sem, seval, r2, strip_ptr, strip_out]
   repeat refine peel ?_
   refine callK_useK (args' := [schAV s, .int .i64 clock, .int .i64 t, .int .i64 vn]) Try.func30 rfl rfl rfl (ap_newR s (by omega) clock t vn L _ _) ?_ ?_
   rotate_left
   · intro p H' n' h; obtain ⟨_, _, _, _, hx, _⟩ := h; cases hx
   rintro rr F4 kX ⟨hf4, hz4, oq, ks3, hr2, hoq, hS3, hk3⟩
   cases hr2
   have r2 := (hz4 n (by omega)).trans r2
   try simp only [go_sem, seval, r2, strip_ptr, strip_out]
   repeat refine peel ?_
   refine hK _ _ _ ?_; clear hK K
   refine awp_seq_k fun K4 hK4 => ?_
   refine awp_reg zs [1, 2, 5, 6, 8, 10, 12, 14, 16, 193] fun K hK => ?_
   try simp only [go_sem, seval, r2, strip_ptr, strip_out, ptrAV_eql, strip_ptr, hof, hog, hor, hoq, beq_self_eq_true, bne_self_eq_false, Bool.not_true, Bool.false_or, Bool.or_true, cond_true, show (false == false) = true from rfl, true_implies, forall_const]
   repeat refine peel ?_
   refine callK_use Try.func16 rfl rfl rfl ((c_law_num _ _ _)) ?_
   try simp only [go_sem, seval, r2, strip_ptr, strip_out, ptrAV_eql, strip_ptr, hof, hog, hor, hoq, beq_self_eq_true, bne_self_eq_false, Bool.not_true, Bool.false_or, Bool.or_true, cond_true, show (false == false) = true from rfl, true_implies, forall_const]
   repeat refine peel ?_
   refine callG_use Try.func16 rfl rfl rfl (fun _ => (c_law_num _ _ _)) ?_
   try simp only [go_sem, seval, r2, strip_ptr, strip_out, ptrAV_eql, strip_ptr, hof, hog, hor, hoq, beq_self_eq_true, bne_self_eq_false, Bool.not_true, Bool.false_or, Bool.or_true, cond_true, show (false == false) = true from rfl, true_implies, forall_const]
   repeat refine peel ?_
   refine hK _ _ _ ?_; clear hK K
   refine awp_cnd (fun hb => ?_) (fun hb => ?_)
   ·skip
    exact absurd hb (by simp)
    --dead
   ·skip
    refine awp_skip ?_
    try simp only [go_sem, seval, r2, strip_ptr, strip_out]
    refine hK4 _ _ _ ?_
    first | clear hK4 K4 | skip
    refine awp_reg zs [1, 2, 5, 6, 8, 10, 12, 14, 16, 18] fun K hK => ?_
    try simp only [go_sem, seval, r2, strip_ptr, strip_out]
    repeat refine peel ?_
    refine hK _ _ _ ?_; clear hK K
    refine awp_seq_k fun K5 hK5 => ?_
    refine awp_adopt_obj kX 7 (els' := [.agg [.osl (kX + 1) 0 0 0, .nilsl, .nilsl, .nilsl]]) (Heap.put_same _ _ _) ⟨Adp.agg ⟨Adp.nilsl _, .refl _ _, .refl _ _, .refl _ _, trivial⟩, trivial⟩ ?_
    refine awp_adopt_obj kX 7 (els' := [.agg [.osl (kX + 1) 0 0 0, .osl (kX + 2) 0 0 0, .nilsl, .nilsl]]) (Heap.put_same _ _ _) ⟨Adp.agg ⟨.refl _ _, Adp.nilsl _, .refl _ _, .refl _ _, trivial⟩, trivial⟩ ?_
    refine awp_adopt_obj kX 7 (els' := [.agg [.osl (kX + 1) 0 0 0, .osl (kX + 2) 0 0 0, .osl (kX + 3) 0 0 0, .nilsl]]) (Heap.put_same _ _ _) ⟨Adp.agg ⟨.refl _ _, .refl _ _, Adp.nilsl _, .refl _ _, trivial⟩, trivial⟩ ?_
    refine awp_adopt_obj kX 7 (els' := [.agg [.osl (kX + 1) 0 0 0, .osl (kX + 2) 0 0 0, .osl (kX + 3) 0 0 0, .osl (kX + 4) 0 0 0]]) (Heap.put_same _ _ _) ⟨Adp.agg ⟨.refl _ _, .refl _ _, .refl _ _, Adp.nilsl _, trivial⟩, trivial⟩ ?_
    have hq6 : n + 6 < kX := by omega
    have hB := ap_beg s clock t t vn mj
    have httF : ∀ kf, of = some kf ∨ og = some kf → schemaE s = 0 := fun kf hk => (boundsE_zero (by rcases hk with e | e; (rw [e] at hof; simpa using hof); (rw [e] at hog; simpa using hog))).1
    have httR : ∀ kf, orr = some kf ∨ oq = some kf → schemaE s = 0 := fun kf hk => (boundsE_zero (by rcases hk with e | e; (rw [e] at hor; simpa using hor); (rw [e] at hoq; simpa using hoq))).1
    have hx0 := fun (G : Heap) (q : Nat) => ap_start hB (G := G) (n' := q) (W := (ap25 (callsE s clock t vn l) (callsE s clock t vn m))) (H := H) (ask := oAV k0 s clock t vn mj l) hQ hn9 (fun k hk => e5 k hk) hf1 hz1 hS0 hk0 hf2 hz2 hS1 hk1 hf3 hz3 hS2 hk2 hf4 hz4 hS3 hk3 (by simp only [oAV, schAV, entsAV]; exact r2) (fun k hk => (hz4 k (by omega)).trans ((hz3 k (by omega)).trans ((hz2 k (by omega)).trans ((hz1 k (by omega)).trans (lo5 k hk)))))
    refine awp_reg zs [1, 2, 5, 6, 8, 10, 12, 14, 16, 18, 19] fun K hK => ?_
    try simp only [go_sem, seval, r2, strip_ptr, strip_out]
    repeat refine peel ?_
    refine hK _ _ _ ?_; clear hK K
    refine awp_block ?_
    refine awp_loop (fun T' H' n' => ∃ (i : Nat), i ≤ L.length + 1 ∧ T' = tl [(1, .sl 7 (m.map entAV)), (2, .loc n 0 0 0 []), (5, .bool true), (6, .loc (n + 1) 0 0 0 []), (8, .sl 7 (L.map entAV)), (10, ptrAV of), (12, ptrAV og), (14, ptrAV orr), (16, ptrAV oq), (18, .loc kX 0 0 0 []), (19, .int .i64 i)] ∧ ApI (wlk0 s clock, kst0 mj t) (wlk0 s clock, sst0 t vn) L (ap25 (callsE s clock t vn l) (callsE s clock t vn m)) n kX (apO of og orr oq) (oAV k0 s clock t vn mj l) H (fun _ => i) (1500000075 + 24 * i) (4 * i) H' n') (fun T' _ _ => L.length + 1 - iv (T' 19)) ?_ ?_
    ·skip
     refine ⟨0, Nat.zero_le _, rfl, hx0 _ _ (fun k hk => ?_) (by simp [Heap.put]) (by simp [Heap.put]) (by simp [Heap.put]) (by simp [Heap.put]) (by simp [Heap.put]) (by omega)⟩
     have b0 : k ≠ kX := by omega
     have b1 : k ≠ kX + 1 := by omega
     have b2 : k ≠ kX + 2 := by omega
     have b3 : k ≠ kX + 3 := by omega
     have b4 : k ≠ kX + 4 := by omega
     simp [Heap.put, b0, b1, b2, b3, b4]
    intro T1 H1 n1
    rintro ⟨i, hi, rfl, hA⟩
    refine awp_seq_k fun K6 hK6 => ?_
    refine awp_reg zs [1, 2, 5, 6, 8, 10, 12, 14, 16, 18, 19, 197] fun K hK => ?_
    try simp only [go_sem, seval, r2, strip_ptr, strip_out]
    repeat refine peel ?_
    refine hK _ _ _ ?_; clear hK K
    refine awp_cnd (fun hb => ?_) (fun hb => ?_)
    ·skip
     have hiL : i ≤ L.length := by have := of_decide_eq_true hb; simp at this; omega
     refine awp_skip ?_
     try simp only [go_sem, seval, r2, strip_ptr, strip_out]
     refine hK6 _ _ _ ?_
     first | clear hK6 K6 | skip
     refine awp_seq_k fun K7 hK7 => ?_
     refine awp_block ?_
     refine awp_reg zs [1, 2, 5, 6, 8, 10, 12, 14, 16, 18, 19, 20] fun K hK => ?_
     try simp only [go_sem, seval, r2, strip_ptr, strip_out]
     repeat refine peel ?_
     refine hK _ _ _ ?_; clear hK K
     refine awp_block ?_
     refine awp_loop (fun T' H' n' => ∃ (c : Nat), c ≤ 4 ∧ T' = tl [(1, .sl 7 (m.map entAV)), (2, .loc n 0 0 0 []), (5, .bool true), (6, .loc (n + 1) 0 0 0 []), (8, .sl 7 (L.map entAV)), (10, ptrAV of), (12, ptrAV og), (14, ptrAV orr), (16, ptrAV oq), (18, .loc kX 0 0 0 []), (19, .int .i64 i), (20, .int .i64 c)] ∧ ApI (wlk0 s clock, kst0 mj t) (wlk0 s clock, sst0 t vn) L (ap25 (callsE s clock t vn l) (callsE s clock t vn m)) n kX (apO of og orr oq) (oAV k0 s clock t vn mj l) H (fun d => if d < c then i + 1 else i) (1500000075 + 24 * i + 6 * c) (4 * i + c) H' n') (fun T' _ _ => 4 - iv (T' 20)) ?_ ?_
     ·skip
      exact ⟨0, Nat.zero_le _, rfl, by simpa using hA⟩
     intro T1 H1 n1
     rintro ⟨c, hc, rfl, hA⟩
     refine awp_seq_k fun K8 hK8 => ?_
     refine awp_reg zs [1, 2, 5, 6, 8, 10, 12, 14, 16, 18, 19, 20, 201] fun K hK => ?_
     try simp only [go_sem, seval, r2, strip_ptr, strip_out]
     repeat refine peel ?_
     refine hK _ _ _ ?_; clear hK K
     refine awp_cnd (fun hb => ?_) (fun hb => ?_)
     ·skip
      have hc4 : c < 4 := by have := of_decide_eq_true hb; omega
      refine awp_skip ?_
      try simp only [go_sem, seval, r2, strip_ptr, strip_out]
      refine hK8 _ _ _ ?_
      first | clear hK8 K8 | skip
      refine awp_seq_k fun K9 hK9 => ?_
      refine awp_block ?_
      refine awp_reg zs [1, 2, 5, 6, 8, 10, 12, 14, 16, 18, 19, 20, 21] fun K hK => ?_
      try simp only [go_sem, seval, r2, strip_ptr, strip_out]
      repeat refine peel ?_
      refine hK _ _ _ ?_; clear hK K
      refine awp_seq_j (fun T' H' n' => T' = tl [(1, .sl 7 (m.map entAV)), (2, .loc n 0 0 0 []), (5, .bool true), (6, .loc (n + 1) 0 0 0 []), (8, .sl 7 (L.map entAV)), (10, ptrAV of), (12, ptrAV og), (14, ptrAV orr), (16, ptrAV oq), (18, .loc kX 0 0 0 []), (19, .int .i64 i), (20, .int .i64 c), (21, ptrAV (if c = 1 then og else of))] ∧ H1 = H' ∧ n1 = n') ?_ ?_
      ·skip
       refine awp_reg zs [1, 2, 5, 6, 8, 10, 12, 14, 16, 18, 19, 20, 21, 206] fun K hK => ?_
       try simp only [go_sem, seval, r2, strip_ptr, strip_out]
       repeat refine peel ?_
       refine hK _ _ _ ?_; clear hK K
       refine awp_cnd (fun hb => ?_) (fun hb => ?_)
       ·skip
        have hx9 : (if c = 1 then og else of) = og := if_pos (by have := eq_of_beq hb; omega)
        refine awp_reg1 zs [1, 2, 5, 6, 8, 10, 12, 14, 16, 18, 19, 20, 21] fun K hK => ?_
        try simp only [go_sem, seval, r2, strip_ptr, strip_out]
        repeat refine peel ?_
        refine hK _ _ _ ?_; clear hK K
        try simp only [go_sem, seval, r2, strip_ptr, strip_out]
        first | exact ⟨by rw [hx9], rfl, rfl⟩ | (rw [hx9]; done) | (rw [hx9]; exact ⟨rfl, rfl, rfl⟩) | (simp only [hx9]; done) | simp [hx9]
       ·skip
        have hx9 : (if c = 1 then og else of) = of := if_neg (by intro e; subst e; simp at hb)
        refine awp_sel [1, 2, 5, 6, 8, 10, 12, 14, 16, 18, 19, 20, 21] ?_
        refine awp_skip ?_
        try simp only [go_sem, seval, r2, strip_ptr, strip_out]
        first | exact ⟨by rw [hx9], rfl, rfl⟩ | (rw [hx9]; done) | (rw [hx9]; exact ⟨rfl, rfl, rfl⟩) | (simp only [hx9]; done) | simp [hx9]
      rintro T9 H9 n9 ⟨rfl, rfl, rfl⟩
      refine awp_reg zs [1, 2, 5, 6, 8, 10, 12, 14, 16, 18, 19, 20, 21, 22] fun K hK => ?_
      try simp only [go_sem, seval, r2, strip_ptr, strip_out]
      repeat refine peel ?_
      refine hK _ _ _ ?_; clear hK K
      refine awp_seq_j (fun T' H' n' => T' = tl [(1, .sl 7 (m.map entAV)), (2, .loc n 0 0 0 []), (5, .bool true), (6, .loc (n + 1) 0 0 0 []), (8, .sl 7 (L.map entAV)), (10, ptrAV of), (12, ptrAV og), (14, ptrAV orr), (16, ptrAV oq), (18, .loc kX 0 0 0 []), (19, .int .i64 i), (20, .int .i64 c), (21, ptrAV (if c = 1 then og else of)), (22, ptrAV (if c = 3 then oq else orr))] ∧ H1 = H' ∧ n1 = n') ?_ ?_
      ·skip
       refine awp_reg zs [1, 2, 5, 6, 8, 10, 12, 14, 16, 18, 19, 20, 21, 22, 210] fun K hK => ?_
       try simp only [go_sem, seval, r2, strip_ptr, strip_out]
       repeat refine peel ?_
       refine hK _ _ _ ?_; clear hK K
       refine awp_cnd (fun hb => ?_) (fun hb => ?_)
       ·skip
        have hy9 : (if c = 3 then oq else orr) = oq := if_pos (by have := eq_of_beq hb; omega)
        refine awp_reg1 zs [1, 2, 5, 6, 8, 10, 12, 14, 16, 18, 19, 20, 21, 22] fun K hK => ?_
        try simp only [go_sem, seval, r2, strip_ptr, strip_out]
        repeat refine peel ?_
        refine hK _ _ _ ?_; clear hK K
        try simp only [go_sem, seval, r2, strip_ptr, strip_out]
        first | exact ⟨by rw [hy9], rfl, rfl⟩ | (rw [hy9]; done) | (rw [hy9]; exact ⟨rfl, rfl, rfl⟩) | (simp only [hy9]; done) | simp [hy9]
       ·skip
        have hy9 : (if c = 3 then oq else orr) = orr := if_neg (by intro e; subst e; simp at hb)
        refine awp_sel [1, 2, 5, 6, 8, 10, 12, 14, 16, 18, 19, 20, 21, 22] ?_
        refine awp_skip ?_
        try simp only [go_sem, seval, r2, strip_ptr, strip_out]
        first | exact ⟨by rw [hy9], rfl, rfl⟩ | (rw [hy9]; done) | (rw [hy9]; exact ⟨rfl, rfl, rfl⟩) | (simp only [hy9]; done) | simp [hy9]
      rintro T9 H9 n9 ⟨rfl, rfl, rfl⟩
      have hox : c < 2 → apO of og orr oq c = (if c = 1 then og else of) := fun h => apO_f h
      have hoy : ¬ c < 2 → apO of og orr oq c = (if c = 3 then oq else orr) := fun h => apO_r h hc4
      have hxF : ∀ kf, (if c = 1 then og else of) = some kf → schemaE s = 0 := fun kf h => httF kf (by by_cases e : c = 1; (rw [if_pos e] at h; exact .inr h); (rw [if_neg e] at h; exact .inl h))
      have hyR : ∀ kf, (if c = 3 then oq else orr) = some kf → schemaE s = 0 := fun kf h => httR kf (by by_cases e : c = 3; (rw [if_pos e] at h; exact .inr h); (rw [if_neg e] at h; exact .inl h))
      generalize (if c = 1 then og else of) = xo at *
      generalize (if c = 3 then oq else orr) = yo at *
      have hA9 := hA
      obtain ⟨ws, tg, ks, j, O, v, hj, hC, hO, hask, hlow, htf, hks, hwl9, hw9⟩ := hA
      have hjc : j c = i := by rw [hj c hc4]; simp
      refine awp_reg zs [1, 2, 5, 6, 8, 10, 12, 14, 16, 18, 19, 20, 21, 22] fun K hK => ?_
      try simp only [go_sem, seval, r2, strip_ptr, strip_out]
      repeat refine peel ?_
      refine hK _ _ _ ?_; clear hK K
      refine awp_seq_j (fun T' H' n' => ∃ q, T' = tl [(1, .sl 7 (m.map entAV)), (2, .loc n 0 0 0 []), (5, .bool true), (6, .loc (n + 1) 0 0 0 []), (8, .sl 7 (L.map entAV)), (10, ptrAV of), (12, ptrAV og), (14, ptrAV orr), (16, ptrAV oq), (18, .loc kX 0 0 0 []), (19, .int .i64 i), (20, .int .i64 c), (23, outAV q)] ∧ Went (wlk0 s clock, kst0 mj t) (wlk0 s clock, sst0 t vn) L c (apO of og orr oq c) (ks c) i (O c) H1 n1 (outAV q) H' n') ?_ ?_
      ·skip
       refine awp_block ?_
       refine awp_reg zs [1, 2, 5, 6, 8, 10, 12, 14, 16, 18, 19, 20, 21, 22, 222] fun K hK => ?_
       try simp only [go_sem, seval, r2, strip_ptr, strip_out, ptrAV_eql, strip_ptr, cond_true, Bool.false_or, Bool.or_true]
       repeat (first | (refine And.intro ?_ ?_; · first | (intro _ hh; rw [hh]; rfl) | (intro hh; rw [hh]; rfl)) | refine peel ?_)
       refine hK _ _ _ ?_; clear hK K
       refine awp_cnd (fun hb => ?_) (fun hb => ?_)
       ·skip
        have hno : apO of og orr oq c = none := by
          by_cases hc2 : c < 2
          · have d1 : decide ((c : Int) < 2) = true := decide_eq_true (by omega)
            have d2 : decide ((2 : Int) ≤ c) = false := decide_eq_false (by omega)
            rw [hox hc2]; cases xo with
            | none => rfl
            | some kf => rw [d1, d2] at hb; cases hb
          · have d1 : decide ((c : Int) < 2) = false := decide_eq_false (by omega)
            have d2 : decide ((2 : Int) ≤ c) = true := decide_eq_true (by omega)
            rw [hoy hc2]; cases yo with
            | none => rfl
            | some kf => rw [d1, d2] at hb; cases hb
        refine awp_exit ?_
        try simp only [go_sem, seval, r2, strip_ptr, strip_out]
        refine hK9 _ _ _ ?_
        first | clear hK9 K9 | skip
        refine awp_reg1 zs [1, 2, 5, 6, 8, 10, 12, 14, 16, 18, 19, 20] fun K hK => ?_
        try simp only [go_sem, seval, r2, strip_ptr, strip_out]
        repeat refine peel ?_
        refine hK _ _ _ ?_; clear hK K
        try simp only [go_sem, seval, r2, strip_ptr, strip_out]
        first
        | exact ⟨⟨c + 1, by omega, by rw [w1 (by omega)], hA9.none hno (fun d hd => apJ hd) (by omega) (by omega)⟩, by rw [w1 (by omega)]; simp; omega⟩
        | (refine ⟨⟨c + 1, by omega, by rw [w1 (by omega)], ws ++ [es], tg', upd ks c ks2, upd j c (i + 1), upd O c (O c ++ es), upd v c (v c + 1), fun d hd => ?_, ?_, ⟨?_, fun d hd => ?_⟩, ?_, fun k hk => ?_, fun k hk => ?_, hks2, by rw [List.length_append, List.length_singleton]; omega, fun w hw => ?_⟩, by rw [w1 (by omega)]; simp; omega⟩
           · by_cases e : d = c
             · rw [e, upd_same]; exact (if_pos (Nat.lt_succ_self _)).symm
             · rw [upd_ne _ _ e, hj d hd]; exact (apJ e).symm
           · rw [List.append_assoc] at hC4
             have hC5 := hC4.beside hB (H' := (H4.put (kX + 1 + c) (some (.arr (v c + 1) 7 (List.take (O c).length (List.map entAV (O c)) ++ List.map entAV es)))).put kX (some (.arr 0 4 [.agg ((outL kX v O).set c (.osl (kX + 1 + c) (v c + 1) 0 ((O c).length + es.length)))]))) (Nat.le_refl _) (fun k hk hX => by
               have a1 : k ≠ kX ∧ k ≠ kX + 1 + c := by
                 rcases hX with hX | hX
                 · simp only [apX, List.mem_cons, List.not_mem_nil, or_false, not_or] at hX
                   omega
                 · omega
               rw [Heap.put_ne _ _ a1.1, Heap.put_ne _ _ a1.2])
             exact { hC5 with kp := hC5.kp.mono (by omega) }
           · rw [Heap.put_same, ← List.length_append, outL_set kX v O hc4]
           · by_cases e : d = c
             · rw [e, Heap.put_ne _ _ (by omega), Heap.put_same, upd_same, upd_same, List.take_of_length_le (by simp), List.map_append]
             · rw [Heap.put_ne _ _ (by omega), Heap.put_ne _ _ (by omega), upd_ne _ _ e, upd_ne _ _ e]; exact hO4.oc d hd
           · rw [Heap.put_ne _ _ (by omega), Heap.put_ne _ _ (by omega), hkW6 n (by simp [apX]) (by omega)]; exact hask
           · rw [Heap.put_ne _ _ (by omega), Heap.put_ne _ _ (by omega), hfr4 k (htf k (by omega)) (by simp only [apX, List.mem_cons, List.not_mem_nil, or_false, not_or]; omega), hlo3 k hk]; exact hlow k hk
           · rw [htg4 k (by omega) (fun h9 => by have := hxs9 k h9; omega)]; exact htf k hk
           · rcases List.mem_append.1 hw with hw | hw
             · exact hw9 w hw
             · rw [List.mem_singleton.1 hw]; exact hel)
       ·skip
        have hsF : c < 2 → ∃ kf, xo = some kf := fun hc2 => by
          have d1 : decide ((c : Int) < 2) = true := decide_eq_true (by omega)
          cases xo with
          | none => rw [d1] at hb; cases hb
          | some kf => exact ⟨kf, rfl⟩
        have hsR : ¬ c < 2 → ∃ kf, yo = some kf := fun hc2 => by
          have d1 : decide ((c : Int) < 2) = false := decide_eq_false (by omega)
          have d2 : decide ((2 : Int) ≤ c) = true := decide_eq_true (by omega)
          cases yo with
          | none => rw [d1, d2] at hb; cases hb
          | some kf => exact ⟨kf, rfl⟩
        refine awp_reg zs [1, 2, 5, 6, 8, 10, 12, 14, 16, 18, 19, 20, 21, 22, 237] fun K hK => ?_
        try simp only [go_sem, seval, r2, strip_ptr, strip_out, cond_true]
        repeat refine peel ?_
        refine hK _ _ _ ?_; clear hK K
        refine awp_cnd (fun hb => ?_) (fun hb => ?_)
        ·skip
         have hc2 : c < 2 := by
           by_cases h9 : c < 2
           · exact h9
           · rw [decide_eq_false (show ¬ (c : Int) < 2 by omega)] at hb; cases hb
         have hiE : ¬ i < L.length := by
           rw [decide_eq_true (show (c : Int) < 2 by omega), cond_true] at hb
           have := eq_of_beq hb; simp at this; omega
         obtain ⟨kf, rfl⟩ := hsF hc2
         have hSc : SS (wlk0 s clock, kst0 mj t) (wlk0 s clock, sst0 t vn) L c (some kf) (ks c) i (O c) H1 n1 := by have h9 := hC.sl c hc4; rw [hox hc2, hjc] at h9; exact h9
         refine awp_reg1 zs [1, 2, 5, 6, 8, 10, 12, 14, 16, 18, 19, 20, 23] fun K hK => ?_
         try simp only [go_sem, seval, r2, strip_ptr, strip_out, ptrAV_some]
         repeat refine peel ?_
         refine callK_useK (args' := [.loc kf 0 0 0 []]) Try.func31 rfl rfl rfl (went_fend (ttl_of (hxF kf rfl)) hB hc2 hSc hiE (by omega)) ?_ ?_
         rotate_left
         · intro p H' n' h; obtain ⟨_, hx, _⟩ := h; cases hx
         rintro rr H2 n2 ⟨a, hr2, hW⟩
         cases hr2
         obtain ⟨q, rfl⟩ := hW.out
         try simp only [go_sem, seval, r2, strip_ptr, strip_out, ptrAV_some]
         repeat refine peel ?_
         refine hK _ _ _ ?_; clear hK K
         try simp only [go_sem, seval, r2, strip_ptr, strip_out]
         have hocS : apO of og orr oq c = some kf := by first | exact hox hc2 | exact hoy hc2
         first | exact ⟨q, rfl, by rw [hocS]; exact hW⟩ | exact ⟨q, by rw [hocS]; exact hW⟩
        ·skip
         have hb9 := hb
         refine awp_reg zs [1, 2, 5, 6, 8, 10, 12, 14, 16, 18, 19, 20, 21, 22, 248] fun K hK => ?_
         try simp only [go_sem, seval, r2, strip_ptr, strip_out]
         repeat refine peel ?_
         refine hK _ _ _ ?_; clear hK K
         refine awp_cnd (fun hb => ?_) (fun hb => ?_)
         ·skip
          have hc2 : c < 2 := by have := of_decide_eq_true hb; omega
          have hiL2 : i < L.length := by
            rcases Nat.lt_or_ge i L.length with h9 | h9
            · exact h9
            · exfalso
              have e9 : i = L.length := by omega
              rw [decide_eq_true (show (c : Int) < 2 by omega), cond_true] at hb9
              rw [e9] at hb9
              simp at hb9
          obtain ⟨kf, rfl⟩ := hsF hc2
          have hSc : SS (wlk0 s clock, kst0 mj t) (wlk0 s clock, sst0 t vn) L c (some kf) (ks c) i (O c) H1 n1 := by have h9 := hC.sl c hc4; rw [hox hc2, hjc] at h9; exact h9
          have hnth : nth (L.map entAV) i = entAV (L[i]'hiL2) := by simp [nth, List.getD, hiL2]
          have hLi : (L[i]'hiL2).fits := hLf _ (List.getElem_mem _)
          refine awp_reg1 zs [1, 2, 5, 6, 8, 10, 12, 14, 16, 18, 19, 20, 23] fun K hK => ?_
          try simp only [go_sem, seval, r2, strip_ptr, strip_out, ptrAV_some, hnth, Int.toNat_natCast, List.length_map]
          repeat (first | (refine And.intro ?_ ?_; · first | (simp; omega) | exact ⟨by omega, by rw [entAV_sz]⟩ | exact ⟨rfl, by rw [entAV_sz]⟩ | omega) | refine peel ?_)
          refine callK_use Try.func33 rfl rfl rfl ((c_ref3_Clone _ hLi _ _)) ?_
          try simp only [go_sem, seval, r2, strip_ptr, strip_out, ptrAV_some, hnth, Int.toNat_natCast, List.length_map]
          repeat (first | (refine And.intro ?_ ?_; · first | (simp; omega) | exact ⟨by omega, by rw [entAV_sz]⟩ | exact ⟨rfl, by rw [entAV_sz]⟩ | omega) | refine peel ?_)
          refine callK_useK (args' := [.loc kf 0 0 0 [], entAV (L[i]'hiL2)]) Try.func32 rfl rfl rfl (went_fpush (ttl_of (hxF kf rfl)) hB hc2 hSc hiL2 (by omega) hLi) ?_ ?_
          rotate_left
          · intro p H' n' h; obtain ⟨_, _, hx, _⟩ := h; cases hx
          rintro rr H2 n2 ⟨a, err, hr2, hW⟩
          cases hr2
          obtain ⟨q, rfl⟩ := hW.out
          try simp only [go_sem, seval, r2, strip_ptr, strip_out, ptrAV_some, hnth, Int.toNat_natCast, List.length_map]
          repeat (first | (refine And.intro ?_ ?_; · first | (simp; omega) | exact ⟨by omega, by rw [entAV_sz]⟩ | exact ⟨rfl, by rw [entAV_sz]⟩ | omega) | refine peel ?_)
          refine hK _ _ _ ?_; clear hK K
          try simp only [go_sem, seval, r2, strip_ptr, strip_out]
          have hocS : apO of og orr oq c = some kf := by first | exact hox hc2 | exact hoy hc2
          first | exact ⟨q, rfl, by rw [hocS]; exact hW⟩ | exact ⟨q, by rw [hocS]; exact hW⟩
         ·skip
          have hc2 : ¬ c < 2 := by have := of_decide_eq_false hb; omega
          refine awp_reg zs [1, 2, 5, 6, 8, 10, 12, 14, 16, 18, 19, 20, 22, 261] fun K hK => ?_
          try simp only [go_sem, seval, r2, strip_ptr, strip_out]
          repeat refine peel ?_
          refine hK _ _ _ ?_; clear hK K
          refine awp_cnd (fun hb => ?_) (fun hb => ?_)
          ·skip
           have hiE : ¬ i < L.length := by have := eq_of_beq hb; simp at this; omega
           obtain ⟨kf, rfl⟩ := hsR hc2
           have hSc : SS (wlk0 s clock, kst0 mj t) (wlk0 s clock, sst0 t vn) L c (some kf) (ks c) i (O c) H1 n1 := by have h9 := hC.sl c hc4; rw [hoy hc2, hjc] at h9; exact h9
           refine awp_reg1 zs [1, 2, 5, 6, 8, 10, 12, 14, 16, 18, 19, 20, 23] fun K hK => ?_
           try simp only [go_sem, seval, r2, strip_ptr, strip_out, ptrAV_some]
           repeat refine peel ?_
           refine callK_useK (args' := [.loc kf 0 0 0 []]) Try.func34 rfl rfl rfl (went_rend (ttl_of (hyR kf rfl)) hB hc2 hSc hiE (by omega)) ?_ ?_
           rotate_left
           · intro p H' n' h; obtain ⟨_, hx, _⟩ := h; cases hx
           rintro rr H2 n2 ⟨a, hr2, hW⟩
           cases hr2
           obtain ⟨q, rfl⟩ := hW.out
           try simp only [go_sem, seval, r2, strip_ptr, strip_out, ptrAV_some]
           repeat refine peel ?_
           refine hK _ _ _ ?_; clear hK K
           try simp only [go_sem, seval, r2, strip_ptr, strip_out]
           have hocS : apO of og orr oq c = some kf := by first | exact hox hc2 | exact hoy hc2
           first | exact ⟨q, rfl, by rw [hocS]; exact hW⟩ | exact ⟨q, by rw [hocS]; exact hW⟩
          ·skip
           have hiL2 : i < L.length := by
             have h9 : ¬ ((i : Int) = (L.length : Int)) := by simpa using hb
             omega
           obtain ⟨kf, rfl⟩ := hsR hc2
           have hSc : SS (wlk0 s clock, kst0 mj t) (wlk0 s clock, sst0 t vn) L c (some kf) (ks c) i (O c) H1 n1 := by have h9 := hC.sl c hc4; rw [hoy hc2, hjc] at h9; exact h9
           have hnth : nth (L.map entAV) i = entAV (L[i]'hiL2) := by simp [nth, List.getD, hiL2]
           have hLi : (L[i]'hiL2).fits := hLf _ (List.getElem_mem _)
           refine awp_reg1 zs [1, 2, 5, 6, 8, 10, 12, 14, 16, 18, 19, 20, 23] fun K hK => ?_
           try simp only [go_sem, seval, r2, strip_ptr, strip_out, ptrAV_some, hnth, Int.toNat_natCast, List.length_map]
           repeat (first | (refine And.intro ?_ ?_; · first | (simp; omega) | exact ⟨by omega, by rw [entAV_sz]⟩ | exact ⟨rfl, by rw [entAV_sz]⟩ | omega) | refine peel ?_)
           refine callK_use Try.func33 rfl rfl rfl ((c_ref3_Clone _ hLi _ _)) ?_
           try simp only [go_sem, seval, r2, strip_ptr, strip_out, ptrAV_some, hnth, Int.toNat_natCast, List.length_map]
           repeat (first | (refine And.intro ?_ ?_; · first | (simp; omega) | exact ⟨by omega, by rw [entAV_sz]⟩ | exact ⟨rfl, by rw [entAV_sz]⟩ | omega) | refine peel ?_)
           refine callK_useK (args' := [.loc kf 0 0 0 [], entAV (L[i]'hiL2)]) Try.func35 rfl rfl rfl (went_rpush (ttl_of (hyR kf rfl)) hB hc2 hSc hiL2 (by omega) hLi) ?_ ?_
           rotate_left
           · intro p H' n' h; obtain ⟨_, _, hx, _⟩ := h; cases hx
           rintro rr H2 n2 ⟨a, err, hr2, hW⟩
           cases hr2
           obtain ⟨q, rfl⟩ := hW.out
           try simp only [go_sem, seval, r2, strip_ptr, strip_out, ptrAV_some, hnth, Int.toNat_natCast, List.length_map]
           repeat (first | (refine And.intro ?_ ?_; · first | (simp; omega) | exact ⟨by omega, by rw [entAV_sz]⟩ | exact ⟨rfl, by rw [entAV_sz]⟩ | omega) | refine peel ?_)
           refine hK _ _ _ ?_; clear hK K
           try simp only [go_sem, seval, r2, strip_ptr, strip_out]
           have hocS : apO of og orr oq c = some kf := by first | exact hox hc2 | exact hoy hc2
           first | exact ⟨q, rfl, by rw [hocS]; exact hW⟩ | exact ⟨q, by rw [hocS]; exact hW⟩
      rintro T2 H2 n2 ⟨q, rfl, hle, ks2, es, hS2, hsub, hfr2, hout, hel, hes⟩
      obtain ⟨hC2, hX2⟩ := hC.step hB hc4 hS2 hle hsub hfr2
      have hlo2 : ∀ k, k < n → H2 k = H1 k := fun k hk => hfr2 k (by have := (hC.xf n (by simp [apX])).2; omega) fun h9 => by have := hks c hc4 k h9; omega
      have hks2 : ∀ d, d < 4 → ∀ k ∈ upd ks c ks2 d, n < k := fun d hd k hk => by
        by_cases e : d = c
        · rw [e, upd_same] at hk
          rcases hsub k hk with h9 | h9
          · exact hks c hc4 k h9
          · have := (hC.xf n (by simp [apX])).2; omega
        · rw [upd_ne _ _ e] at hk; exact hks d hd k hk
      rcases q with _ | ⟨k9, l9⟩
      ·skip
       have hes0 : es = [] := by rcases hout with ⟨_, h9⟩ | ⟨_, _, h9, _⟩; exact h9; cases h9
       refine awp_adopt_tmp 23 7 rfl ?_
       obtain ⟨hC3, hT3⟩ := told_a hB hC2
       obtain ⟨ko, xs, hko, hT, hxe, hko9, hxs9⟩ : ∃ (ko : Nat) (xs : List LEnt), AV.osl n2 0 0 0 = AV.osl ko xs.length 0 xs.length ∧ Tl tg (apX n kX) (upd ks c ks2) ko xs (H2.put n2 (some (.arr 0 7 []))) (n2 + 1) ∧ xs.map (·.e) = es ∧ n < ko ∧ ∀ k ∈ xs.flatMap LEnt.ks, n < k := ⟨n2, [], rfl, hT3, hes0.symm, (hC2.xf n (by simp [apX])).2, fun k hk => by cases hk⟩
       rw [hko]
       have hX3 : ∀ k ∈ apX n kX, (H2.put n2 (some (.arr 0 7 []))) k = H1 k := fun k hk => (Heap.put_ne _ _ (by have := (hC2.xf k hk).2; omega)).trans (hX2 k hk)
       have hlo3 : ∀ k, k < n → (H2.put n2 (some (.arr 0 7 []))) k = H1 k := fun k hk => (Heap.put_ne _ _ (by have := (hC2.xf n (by simp [apX])).2; omega)).trans (hlo2 k hk)
       generalize H2.put n2 (some (.arr 0 7 [])) = H3 at *
       generalize n2 + 1 = n3 at *
       refine awp_reg zs [1, 2, 5, 6, 8, 10, 12, 14, 16, 18, 19, 20, 23] fun K hK => ?_
       try simp only [go_sem, seval, r2, strip_ptr, strip_out]
       repeat refine peel ?_
       refine callK_useK (args' := [.loc (n + 1) 0 0 0 [], .osl ko xs.length 0 xs.length]) Try.func36 rfl rfl rfl (take_told hB hC3 hT (by rw [hxe]; exact hes) (by have h9 := congrArg List.length hxe; rw [List.length_map] at h9; omega) (by omega) (by rw [List.length_append, show (ap25 (callsE s clock t vn l) (callsE s clock t vn m)).length = 25 from rfl]; omega)) ?_ ?_
       rotate_left
       · intro p H' n' h; cases h.1
       rintro rr H4 n4 ⟨hr2, hn4, tg', hC4, hX4, hfr4, htg4, hcl⟩
       cases hr2
       subst hn4
       rw [hxe] at hC4 hcl
       have hkW6 : ∀ k ∈ apX n kX, k ≠ n + 6 → H4 k = H1 k := fun k hk hne => (hX4 k hk hne).trans (hX3 k hk)
       have hO4 : Outs kX v O H4 := hO.mono fun k g1 g2 => hkW6 k (by simp only [apX, List.mem_cons, List.not_mem_nil, or_false]; omega) (by have := (hC.xf (n + 6) (by simp [apX])).2; omega)
       have hox4 := hO4.ox
       have hoc4 := hO4.oc c hc4
       have hnX := outL_nth kX v O hc4
       have hszX := outL_szs kX v O hc4
       have hlX := outL_len kX v O
       have hsX := outL_sz kX v O
       have qX1 : (kX = kX + 1 + c) = False := by simp; omega
       have qX2 : (kX + 1 + c = kX) = False := by simp; omega
       have hOl := SS.olen hB (hC.sl c hc4)
       rw [hjc] at hOl
       have hm9 : (es.map entAV).length = es.length := List.length_map _
       have hm8 : ((O c).map entAV).length = (O c).length := List.length_map _
       have hcI : (0 ≤ (c : Int) ∧ (c : Int) < 4) = True := eq_true ⟨by omega, by omega⟩
       try simp only [go_sem, seval, r2, strip_ptr, strip_out]
       repeat refine peel ?_
       refine hK _ _ _ ?_; clear hK K
       refine awp_drw1 rfl zs [1, 2, 5, 6, 8, 10, 12, 14, 16, 18, 19, 20] [.m, .m, .q, .q, .m, .c, .w [], .q, .w []] (by kernel_rfl) (fun _ _ _ _ _ h => h) fun K hK => ?_
       try simp only [go_sem, seval, r2, strip_ptr, strip_out, hox4, hoc4, Int.toNat_natCast, hnX, hszX, hlX, hsX, qX1, qX2, hm9, hm8, hcI, entsAV, Nat.mul_one, Nat.zero_add]
       repeat (first | (refine And.intro ?_ ?_; · first | exact ⟨by omega, by omega⟩ | exact ⟨by first | omega | (simp; done), .inr trivial, by first | omega | (simp; omega), by first | omega | (simp; omega)⟩ | exact ⟨rfl, hc4, by omega⟩) | refine peel ?_)
       refine callQG_use Try.func22 rfl rfl rfl (fun _ n => (hcl _)) ?_
       try simp only [go_sem, seval, r2, strip_ptr, strip_out, hox4, hoc4, Int.toNat_natCast, hnX, hszX, hlX, hsX, qX1, qX2, hm9, hm8, hcI, entsAV, Nat.mul_one, Nat.zero_add]
       repeat (first | (refine And.intro ?_ ?_; · first | exact ⟨by omega, by omega⟩ | exact ⟨by first | omega | (simp; done), .inr trivial, by first | omega | (simp; omega), by first | omega | (simp; omega)⟩ | exact ⟨rfl, hc4, by omega⟩) | refine peel ?_)
       refine hK _ _ _ ?_; clear hK K
       try simp only [go_sem, seval, r2, strip_ptr, strip_out]
       refine hK9 _ _ _ ?_
       first | clear hK9 K9 | skip
       refine awp_reg1 zs [1, 2, 5, 6, 8, 10, 12, 14, 16, 18, 19, 20] fun K hK => ?_
       try simp only [go_sem, seval, r2, strip_ptr, strip_out]
       repeat refine peel ?_
       refine hK _ _ _ ?_; clear hK K
       try simp only [go_sem, seval, r2, strip_ptr, strip_out]
       first
       | exact ⟨⟨c + 1, by omega, by rw [w1 (by omega)], hA9.none hno (fun d hd => apJ hd) (by omega) (by omega)⟩, by rw [w1 (by omega)]; simp; omega⟩
       | (refine ⟨⟨c + 1, by omega, by rw [w1 (by omega)], ws ++ [es], tg', upd ks c ks2, upd j c (i + 1), upd O c (O c ++ es), upd v c (v c + 1), fun d hd => ?_, ?_, ⟨?_, fun d hd => ?_⟩, ?_, fun k hk => ?_, fun k hk => ?_, hks2, by rw [List.length_append, List.length_singleton]; omega, fun w hw => ?_⟩, by rw [w1 (by omega)]; simp; omega⟩
          · by_cases e : d = c
            · rw [e, upd_same]; exact (if_pos (Nat.lt_succ_self _)).symm
            · rw [upd_ne _ _ e, hj d hd]; exact (apJ e).symm
          · rw [List.append_assoc] at hC4
            have hC5 := hC4.beside hB (H' := (H4.put (kX + 1 + c) (some (.arr (v c + 1) 7 (List.take (O c).length (List.map entAV (O c)) ++ List.map entAV es)))).put kX (some (.arr 0 4 [.agg ((outL kX v O).set c (.osl (kX + 1 + c) (v c + 1) 0 ((O c).length + es.length)))]))) (Nat.le_refl _) (fun k hk hX => by
              have a1 : k ≠ kX ∧ k ≠ kX + 1 + c := by
                rcases hX with hX | hX
                · simp only [apX, List.mem_cons, List.not_mem_nil, or_false, not_or] at hX
                  omega
                · omega
              rw [Heap.put_ne _ _ a1.1, Heap.put_ne _ _ a1.2])
            exact { hC5 with kp := hC5.kp.mono (by omega) }
          · rw [Heap.put_same, ← List.length_append, outL_set kX v O hc4]
          · by_cases e : d = c
            · rw [e, Heap.put_ne _ _ (by omega), Heap.put_same, upd_same, upd_same, List.take_of_length_le (by simp), List.map_append]
            · rw [Heap.put_ne _ _ (by omega), Heap.put_ne _ _ (by omega), upd_ne _ _ e, upd_ne _ _ e]; exact hO4.oc d hd
          · rw [Heap.put_ne _ _ (by omega), Heap.put_ne _ _ (by omega), hkW6 n (by simp [apX]) (by omega)]; exact hask
          · rw [Heap.put_ne _ _ (by omega), Heap.put_ne _ _ (by omega), hfr4 k (htf k (by omega)) (by simp only [apX, List.mem_cons, List.not_mem_nil, or_false, not_or]; omega), hlo3 k hk]; exact hlow k hk
          · rw [htg4 k (by omega) (fun h9 => by have := hxs9 k h9; omega)]; exact htf k hk
          · rcases List.mem_append.1 hw with hw | hw
            · exact hw9 w hw
            · rw [List.mem_singleton.1 hw]; exact hel)
      ·skip
       obtain ⟨ko, xs, hko, hxe, p1, p2, p3, p4, p5⟩ : ∃ (ko : Nat) (xs : List LEnt), outAV (some (k9, l9)) = AV.osl ko xs.length 0 xs.length ∧ xs.map (·.e) = es ∧ ko ∈ ks c ∧ ko ∉ ks2 ∧ H2 ko = some (.arr xs.length 7 (xs.map lentAV)) ∧ MineL H2 n1 n2 xs ∧ (∀ k ∈ xs.flatMap LEnt.ks, k ∉ ks2) := by rcases hout with ⟨h9, _⟩ | h9; cases h9; exact h9
       rw [hko]
       have hC3 := hC2
       have hT := told_b hC hc4 hle p1 p2 p3 p4 p5
       have hX3 := hX2
       have hko9 : n < ko := hks c hc4 ko p1
       have hxs9 : ∀ k ∈ xs.flatMap LEnt.ks, n < k := fun k hk => by have := (p4.in' hk).1; have := (hC.xf n (by simp [apX])).2; omega
       have hlo3 := hlo2
       refine awp_reg zs [1, 2, 5, 6, 8, 10, 12, 14, 16, 18, 19, 20, 23] fun K hK => ?_
       try simp only [go_sem, seval, r2, strip_ptr, strip_out]
       repeat refine peel ?_
       refine callK_useK (args' := [.loc (n + 1) 0 0 0 [], .osl ko xs.length 0 xs.length]) Try.func36 rfl rfl rfl (take_told hB hC3 hT (by rw [hxe]; exact hes) (by have h9 := congrArg List.length hxe; rw [List.length_map] at h9; omega) (by omega) (by rw [List.length_append, show (ap25 (callsE s clock t vn l) (callsE s clock t vn m)).length = 25 from rfl]; omega)) ?_ ?_
       rotate_left
       · intro p H' n' h; cases h.1
       rintro rr H4 n4 ⟨hr2, hn4, tg', hC4, hX4, hfr4, htg4, hcl⟩
       cases hr2
       subst hn4
       rw [hxe] at hC4 hcl
       have hkW6 : ∀ k ∈ apX n kX, k ≠ n + 6 → H4 k = H1 k := fun k hk hne => (hX4 k hk hne).trans (hX3 k hk)
       have hO4 : Outs kX v O H4 := hO.mono fun k g1 g2 => hkW6 k (by simp only [apX, List.mem_cons, List.not_mem_nil, or_false]; omega) (by have := (hC.xf (n + 6) (by simp [apX])).2; omega)
       have hox4 := hO4.ox
       have hoc4 := hO4.oc c hc4
       have hnX := outL_nth kX v O hc4
       have hszX := outL_szs kX v O hc4
       have hlX := outL_len kX v O
       have hsX := outL_sz kX v O
       have qX1 : (kX = kX + 1 + c) = False := by simp; omega
       have qX2 : (kX + 1 + c = kX) = False := by simp; omega
       have hOl := SS.olen hB (hC.sl c hc4)
       rw [hjc] at hOl
       have hm9 : (es.map entAV).length = es.length := List.length_map _
       have hm8 : ((O c).map entAV).length = (O c).length := List.length_map _
       have hcI : (0 ≤ (c : Int) ∧ (c : Int) < 4) = True := eq_true ⟨by omega, by omega⟩
       try simp only [go_sem, seval, r2, strip_ptr, strip_out]
       repeat refine peel ?_
       refine hK _ _ _ ?_; clear hK K
       refine awp_drw1 rfl zs [1, 2, 5, 6, 8, 10, 12, 14, 16, 18, 19, 20] [.m, .m, .q, .q, .m, .c, .w [], .q, .w []] (by kernel_rfl) (fun _ _ _ _ _ h => h) fun K hK => ?_
       try simp only [go_sem, seval, r2, strip_ptr, strip_out, hox4, hoc4, Int.toNat_natCast, hnX, hszX, hlX, hsX, qX1, qX2, hm9, hm8, hcI, entsAV, Nat.mul_one, Nat.zero_add]
       repeat (first | (refine And.intro ?_ ?_; · first | exact ⟨by omega, by omega⟩ | exact ⟨by first | omega | (simp; done), .inr trivial, by first | omega | (simp; omega), by first | omega | (simp; omega)⟩ | exact ⟨rfl, hc4, by omega⟩) | refine peel ?_)
       refine callQG_use Try.func22 rfl rfl rfl (fun _ n => (hcl _)) ?_
       try simp only [go_sem, seval, r2, strip_ptr, strip_out, hox4, hoc4, Int.toNat_natCast, hnX, hszX, hlX, hsX, qX1, qX2, hm9, hm8, hcI, entsAV, Nat.mul_one, Nat.zero_add]
       repeat (first | (refine And.intro ?_ ?_; · first | exact ⟨by omega, by omega⟩ | exact ⟨by first | omega | (simp; done), .inr trivial, by first | omega | (simp; omega), by first | omega | (simp; omega)⟩ | exact ⟨rfl, hc4, by omega⟩) | refine peel ?_)
       refine hK _ _ _ ?_; clear hK K
       try simp only [go_sem, seval, r2, strip_ptr, strip_out]
       refine hK9 _ _ _ ?_
       first | clear hK9 K9 | skip
       refine awp_reg1 zs [1, 2, 5, 6, 8, 10, 12, 14, 16, 18, 19, 20] fun K hK => ?_
       try simp only [go_sem, seval, r2, strip_ptr, strip_out]
       repeat refine peel ?_
       refine hK _ _ _ ?_; clear hK K
       try simp only [go_sem, seval, r2, strip_ptr, strip_out]
       first
       | exact ⟨⟨c + 1, by omega, by rw [w1 (by omega)], hA9.none hno (fun d hd => apJ hd) (by omega) (by omega)⟩, by rw [w1 (by omega)]; simp; omega⟩
       | (refine ⟨⟨c + 1, by omega, by rw [w1 (by omega)], ws ++ [es], tg', upd ks c ks2, upd j c (i + 1), upd O c (O c ++ es), upd v c (v c + 1), fun d hd => ?_, ?_, ⟨?_, fun d hd => ?_⟩, ?_, fun k hk => ?_, fun k hk => ?_, hks2, by rw [List.length_append, List.length_singleton]; omega, fun w hw => ?_⟩, by rw [w1 (by omega)]; simp; omega⟩
          · by_cases e : d = c
            · rw [e, upd_same]; exact (if_pos (Nat.lt_succ_self _)).symm
            · rw [upd_ne _ _ e, hj d hd]; exact (apJ e).symm
          · rw [List.append_assoc] at hC4
            have hC5 := hC4.beside hB (H' := (H4.put (kX + 1 + c) (some (.arr (v c + 1) 7 (List.take (O c).length (List.map entAV (O c)) ++ List.map entAV es)))).put kX (some (.arr 0 4 [.agg ((outL kX v O).set c (.osl (kX + 1 + c) (v c + 1) 0 ((O c).length + es.length)))]))) (Nat.le_refl _) (fun k hk hX => by
              have a1 : k ≠ kX ∧ k ≠ kX + 1 + c := by
                rcases hX with hX | hX
                · simp only [apX, List.mem_cons, List.not_mem_nil, or_false, not_or] at hX
                  omega
                · omega
              rw [Heap.put_ne _ _ a1.1, Heap.put_ne _ _ a1.2])
            exact { hC5 with kp := hC5.kp.mono (by omega) }
          · rw [Heap.put_same, ← List.length_append, outL_set kX v O hc4]
          · by_cases e : d = c
            · rw [e, Heap.put_ne _ _ (by omega), Heap.put_same, upd_same, upd_same, List.take_of_length_le (by simp), List.map_append]
            · rw [Heap.put_ne _ _ (by omega), Heap.put_ne _ _ (by omega), upd_ne _ _ e, upd_ne _ _ e]; exact hO4.oc d hd
          · rw [Heap.put_ne _ _ (by omega), Heap.put_ne _ _ (by omega), hkW6 n (by simp [apX]) (by omega)]; exact hask
          · rw [Heap.put_ne _ _ (by omega), Heap.put_ne _ _ (by omega), hfr4 k (htf k (by omega)) (by simp only [apX, List.mem_cons, List.not_mem_nil, or_false, not_or]; omega), hlo3 k hk]; exact hlow k hk
          · rw [htg4 k (by omega) (fun h9 => by have := hxs9 k h9; omega)]; exact htf k hk
          · rcases List.mem_append.1 hw with hw | hw
            · exact hw9 w hw
            · rw [List.mem_singleton.1 hw]; exact hel)
     ·skip
      have hc4 : c = 4 := by have := of_decide_eq_false hb; omega
      subst hc4
      have hA2 : ApI (wlk0 s clock, kst0 mj t) (wlk0 s clock, sst0 t vn) L (ap25 (callsE s clock t vn l) (callsE s clock t vn m)) n kX (apO of og orr oq) (oAV k0 s clock t vn mj l) H (fun _ => i + 1) (1500000075 + 24 * (i + 1)) (4 * (i + 1)) H1 n1 := by obtain ⟨ws, tg, ks, j, O, v, hj, hrest⟩ := hA; exact ⟨ws, tg, ks, j, O, v, fun d hd => (hj d hd).trans (if_pos hd), hrest⟩
      refine awp_exit ?_
      try simp only [go_sem, seval, r2, strip_ptr, strip_out]
      refine hK7 _ _ _ ?_
      first | clear hK7 K7 | skip
      refine awp_reg1 zs [1, 2, 5, 6, 8, 10, 12, 14, 16, 18, 19] fun K hK => ?_
      try simp only [go_sem, seval, r2, strip_ptr, strip_out]
      repeat refine peel ?_
      refine hK _ _ _ ?_; clear hK K
      try simp only [go_sem, seval, r2, strip_ptr, strip_out]
      exact ⟨⟨i + 1, by omega, by rw [w1 (by omega)], hA2⟩, by rw [w1 (by omega)]; simp; omega⟩
    ·skip
     have hiE : i = L.length + 1 := by have := of_decide_eq_false hb; simp at this; omega
     obtain ⟨ws, tg, ks, j, O, v, hj, hC, hO, hask, hlow, htf, hks, hwl9, hw9⟩ := hA
     have hA01 : O 0 = O 1 := hC.alike (by omega) (by omega) (by simp) (by show of.isNone = og.isNone; rw [hof, hog]) (by rw [hj 0 (by omega), hj 1 (by omega)])
     have hA23 : O 2 = O 3 := hC.alike (by omega) (by omega) (by simp) (by show orr.isNone = oq.isNone; rw [hor, hoq]) (by rw [hj 2 (by omega), hj 3 (by omega)])
     have hol : ∀ c, c < 4 → (O c).length < 4611686018427387904 := fun c hc => by have h9 := SS.olen hB (hC.sl c hc); have h8 : j c = i := hj c hc; rw [h8] at h9; omega
     have hsame : ∀ c d, c < 4 → d < 4 → O c = O d → ∀ q, Ret Try.prog 18 [.osl (kX + 1 + c) (v c) 0 (O c).length, .osl (kX + 1 + d) (v d) 0 (O d).length] H1 q (.bool true) H1 q := fun c d hc hd e q => by
       have h9 := c_ref3_SameAll (O c) (O d) (hol c hc) (fun _ => none) 0
       rw [show decide (O c = O d) = true by simp [e]] at h9
       exact Ret.lend trivial (.cons (ents_frz1 (hO.oc c hc)) (.cons (ents_frz1 (hO.oc d hd)) .nil)) h9
     have hox := hO.ox
     have n0 := outL_nth kX v O (c := 0) (by omega)
     have n1' := outL_nth kX v O (c := 1) (by omega)
     have n2' := outL_nth kX v O (c := 2) (by omega)
     have n3' := outL_nth kX v O (c := 3) (by omega)
     have z0 := outL_szs kX v O (c := 0) (by omega)
     have z1 := outL_szs kX v O (c := 1) (by omega)
     have z2 := outL_szs kX v O (c := 2) (by omega)
     have z3 := outL_szs kX v O (c := 3) (by omega)
     have hlX := outL_len kX v O
     have hwlen : ∀ w ∈ (ap25 (callsE s clock t vn l) (callsE s clock t vn m)) ++ ws, w.length < 4611686018427387904 := fun w hw => by
       rcases List.mem_append.1 hw with hw | hw
       · simp only [ap25, List.mem_append] at hw
         rcases hw with (((hw | hw) | hw) | hw) | hw
         · have := (callsE_ok s clock t vn l (by omega) w hw).2; omega
         · have := (callsE_ok s clock t vn l (by omega) w hw).2; omega
         · have := (callsE_ok s clock t vn m (by omega) w hw).2; omega
         · have := (callsE_ok s clock t vn m (by omega) w hw).2; omega
         · have := (callsE_ok s clock t vn l (by omega) w hw).2; omega
       · have := hw9 w hw; omega
     refine awp_exit ?_
     try simp only [go_sem, seval, r2, strip_ptr, strip_out]
     refine hK5 _ _ _ ?_
     first | clear hK5 K5 | skip
     refine awp_seq_k fun K10 hK10 => ?_
     refine awp_reg zs [1, 2, 5, 6, 297] fun K hK => ?_
     try simp only [go_sem, seval, r2, strip_ptr, strip_out, hox, n0, n1', n2', n3', z0, z1, z2, z3, hlX, show Int.toNat 0 = 0 from rfl, show Int.toNat 1 = 1 from rfl, show Int.toNat 2 = 2 from rfl, show Int.toNat 3 = 3 from rfl, Nat.one_mul, Nat.mul_one, Nat.zero_add, Bool.false_or, Bool.or_true, cond_true, show (!true) = false from rfl, show (false == false) = true from rfl, true_implies, forall_const]
     repeat (first | (refine And.intro ?_ ?_; · first | exact ⟨by omega, by omega⟩ | (intro _; exact ⟨by omega, by omega⟩) | (simp; done) | omega) | refine peel ?_)
     refine callK_use Try.func18 rfl rfl rfl ((hsame 0 1 (by omega) (by omega) hA01 _)) ?_
     try simp only [go_sem, seval, r2, strip_ptr, strip_out, hox, n0, n1', n2', n3', z0, z1, z2, z3, hlX, show Int.toNat 0 = 0 from rfl, show Int.toNat 1 = 1 from rfl, show Int.toNat 2 = 2 from rfl, show Int.toNat 3 = 3 from rfl, Nat.one_mul, Nat.mul_one, Nat.zero_add, Bool.false_or, Bool.or_true, cond_true, show (!true) = false from rfl, show (false == false) = true from rfl, true_implies, forall_const]
     repeat (first | (refine And.intro ?_ ?_; · first | exact ⟨by omega, by omega⟩ | (intro _; exact ⟨by omega, by omega⟩) | (simp; done) | omega) | refine peel ?_)
     refine callG_use Try.func18 rfl rfl rfl (fun _ => (hsame 2 3 (by omega) (by omega) hA23 _)) ?_
     try simp only [go_sem, seval, r2, strip_ptr, strip_out, hox, n0, n1', n2', n3', z0, z1, z2, z3, hlX, show Int.toNat 0 = 0 from rfl, show Int.toNat 1 = 1 from rfl, show Int.toNat 2 = 2 from rfl, show Int.toNat 3 = 3 from rfl, Nat.one_mul, Nat.mul_one, Nat.zero_add, Bool.false_or, Bool.or_true, cond_true, show (!true) = false from rfl, show (false == false) = true from rfl, true_implies, forall_const]
     repeat (first | (refine And.intro ?_ ?_; · first | exact ⟨by omega, by omega⟩ | (intro _; exact ⟨by omega, by omega⟩) | (simp; done) | omega) | refine peel ?_)
     refine callG_use Try.func37 rfl rfl rfl (fun _ => (c_law_untouched (n + 1) (n + 6) _ ((ap25 (callsE s clock t vn l) (callsE s clock t vn m)) ++ ws) tg H1 _ hC.kp hwlen)) ?_
     try simp only [go_sem, seval, r2, strip_ptr, strip_out, hox, n0, n1', n2', n3', z0, z1, z2, z3, hlX, show Int.toNat 0 = 0 from rfl, show Int.toNat 1 = 1 from rfl, show Int.toNat 2 = 2 from rfl, show Int.toNat 3 = 3 from rfl, Nat.one_mul, Nat.mul_one, Nat.zero_add, Bool.false_or, Bool.or_true, cond_true, show (!true) = false from rfl, show (false == false) = true from rfl, true_implies, forall_const]
     repeat (first | (refine And.intro ?_ ?_; · first | exact ⟨by omega, by omega⟩ | (intro _; exact ⟨by omega, by omega⟩) | (simp; done) | omega) | refine peel ?_)
     refine hK _ _ _ ?_; clear hK K
     refine awp_cnd (fun hb => ?_) (fun hb => ?_)
     ·skip
      exact absurd hb (by decide)
      --dead
     ·skip
      obtain ⟨A, bs, es, vW, hkb, hp⟩ := hC.kp
      refine awp_skip ?_
      try simp only [go_sem, seval, r2, strip_ptr, strip_out]
      refine hK10 _ _ _ ?_
      first | clear hK10 K10 | skip
      refine awp_reg zs [1, 2, 5, 6] fun K hK => ?_
      try simp only [go_sem, seval, r2, strip_ptr, strip_out]
      repeat refine peel ?_
      refine callK_useK (args' := [.loc A.kb 0 0 0 [0]]) Try.func26 rfl rfl (by rw [hkb]; rfl) (c_law_spoils (.osl (n + 6) vW 0 ((ap25 (callsE s clock t vn l) (callsE s clock t vn m)) ++ ws).length) rfl tg A bs 0 es 0 H1 n1 hp.bk hp.obj) ?_ ?_
      rotate_left
      · intro p H' n' h; obtain ⟨_, _, _, _, hx, _⟩ := h; cases hx
      rintro rr H2 n2 ⟨tg2, A2, bs2, es2, hr2, hS⟩
      cases hr2
      have hbk4 := hS.bk
      rw [← hS.lb, ← hS.le'] at hbk4
      have hob4 := hS.obj
      rw [← hS.lb, ← hS.le'] at hob4
      have hkb4 : A2.kb = n + 1 := hS.kb.trans hkb
      have hnX := hC.xf
      have hn1X : n < n1 := (hC.xf n (by simp [apX])).2
      have hn6X : n + 6 < n1 := (hC.xf (n + 6) (by simp [apX])).2
      have r2 := (hS.free n hn1X (htf n (Nat.le_refl _))).1.trans hask
      simp only [oAV, schAV, entsAV] at r2
      have hW2 := (hS.free (n + 6) hn6X hp.tW).1.trans hp.was
      have hlow2 : ∀ k, k < n → H2 k = H k := fun k hk => (hS.free k (by omega) (htf k (by omega))).1.trans (hlow k hk)
      have hle2 := hS.le
      try simp only [go_sem, seval, r2, strip_ptr, strip_out]
      repeat refine peel ?_
      refine hK _ _ _ ?_; clear hK K
      refine awp_seq_k fun K11 hK11 => ?_
      refine awp_reg zs [1, 2, 6, 310] fun K hK => ?_
      try simp only [go_sem, seval, r2, strip_ptr, strip_out, show (!true) = false from rfl, show (false == false) = true from rfl, true_implies, forall_const]
      repeat refine peel ?_
      refine callG_use Try.func27 rfl rfl rfl (fun _ => (by have h := c_law_stands (.osl (n + 6) vW 0 ((ap25 (callsE s clock t vn l) (callsE s clock t vn m)) ++ ws).length) tg2 A2 bs2 es2 H2 n2 hbk4 hob4; rw [hkb4] at h; exact h)) ?_
      try simp only [go_sem, seval, r2, strip_ptr, strip_out, show (!true) = false from rfl, show (false == false) = true from rfl, true_implies, forall_const]
      repeat refine peel ?_
      refine hK _ _ _ ?_; clear hK K
      refine awp_cnd (fun hb => ?_) (fun hb => ?_)
      ·skip
       exact absurd hb (by decide)
       --dead
      ·skip
       obtain ⟨q, rfl⟩ : ∃ q, n2 = q + 1 := ⟨n2 - 1, by omega⟩
       have hnq : n < q := by omega
       refine awp_skip ?_
       try simp only [go_sem, seval, r2, strip_ptr, strip_out]
       refine hK11 _ _ _ ?_
       first | clear hK11 K11 | skip
       refine awp_reg zs [1, 2, 6, 24] fun K hK => ?_
       try simp only [go_sem, seval, r2, strip_ptr, strip_out]
       repeat refine peel ?_
       refine hK _ _ _ ?_; clear hK K
       refine awp_adopt_obj (q + 1) 1 (els' := [.agg [.agg [.osl (q + 2) 0 0 0, .nilsl, .nilsl, .nilsl, .nilsl], .nilsl]]) (Heap.put_same _ _ _) ⟨Adp.agg ⟨Adp.agg ⟨Adp.nilsl _, .refl _ _, .refl _ _, .refl _ _, .refl _ _, trivial⟩, .refl _ _, trivial⟩, trivial⟩ ?_
       refine awp_adopt_obj (q + 1) 1 (els' := [.agg [.agg [.osl (q + 2) 0 0 0, .osl (q + 3) 0 0 0, .nilsl, .nilsl, .nilsl], .nilsl]]) (Heap.put_same _ _ _) ⟨Adp.agg ⟨Adp.agg ⟨.refl _ _, Adp.nilsl _, .refl _ _, .refl _ _, .refl _ _, trivial⟩, .refl _ _, trivial⟩, trivial⟩ ?_
       refine awp_adopt_obj (q + 1) 1 (els' := [.agg [.agg [.osl (q + 2) 0 0 0, .osl (q + 3) 0 0 0, .osl (q + 4) 0 0 0, .nilsl, .nilsl], .nilsl]]) (Heap.put_same _ _ _) ⟨Adp.agg ⟨Adp.agg ⟨.refl _ _, .refl _ _, Adp.nilsl _, .refl _ _, .refl _ _, trivial⟩, .refl _ _, trivial⟩, trivial⟩ ?_
       refine awp_adopt_obj (q + 1) 1 (els' := [.agg [.agg [.osl (q + 2) 0 0 0, .osl (q + 3) 0 0 0, .osl (q + 4) 0 0 0, .osl (q + 5) 0 0 0, .nilsl], .nilsl]]) (Heap.put_same _ _ _) ⟨Adp.agg ⟨Adp.agg ⟨.refl _ _, .refl _ _, .refl _ _, Adp.nilsl _, .refl _ _, trivial⟩, .refl _ _, trivial⟩, trivial⟩ ?_
       refine awp_adopt_obj (q + 1) 1 (els' := [.agg [.agg [.osl (q + 2) 0 0 0, .osl (q + 3) 0 0 0, .osl (q + 4) 0 0 0, .osl (q + 5) 0 0 0, .nilsl], .osl (q + 6) 0 0 0]]) (Heap.put_same _ _ _) ⟨Adp.agg ⟨.refl _ _, Adp.nilsl _, trivial⟩, trivial⟩ ?_
       refine awp_reg zs [1, 2, 6, 24] fun K hK => ?_
       try simp only [go_sem, seval, r2, strip_ptr, strip_out, (show (n = q + 1) = False by simp; omega), (show (n = q + 1 + 1) = False by simp; omega), (show (n = q + 1 + 1 + 1) = False by simp; omega), (show (n = q + 1 + 1 + 1 + 1) = False by simp; omega), (show (n = q + 1 + 1 + 1 + 1 + 1) = False by simp; omega), (show (n = q + 1 + 1 + 1 + 1 + 1 + 1) = False by simp; omega), (show (n = q + 2) = False by simp; omega), (show (n = q + 3) = False by simp; omega), (show (n = q + 4) = False by simp; omega), (show (n = q + 5) = False by simp; omega), (show (n = q + 6) = False by simp; omega)]
       repeat refine peel ?_
       refine callK_useK (args' := [.loc (q + 1) 0 0 0 [], oAV k0 s clock t vn mj l, entsAV l]) Try.func28 rfl rfl rfl (c_law_calls (q + 1) (q + 6) 0 [] (tg5 q) _ _ (kp0 (by simp [Heap.put, Nat.add_assoc]) (by simp [Heap.put, Nat.add_assoc]) (by simp [Heap.put, Nat.add_assoc]) (by simp [Heap.put, Nat.add_assoc]) (by simp [Heap.put, Nat.add_assoc]) (by simp [Heap.put, Nat.add_assoc]) (by omega)) k0 s clock t vn mj l l (by omega) (by omega) (by simp [callsE])) ?_ ?_
       rotate_left
       · intro p H' n' h; cases h.1
       rintro rr G6 m6 ⟨hr2, hn6', ⟨ta6, hQ6, ht6⟩, hl6⟩
       cases hr2
       have e6 : ∀ k, k ≤ q → ta6 k = .free := fun k hk => (ht6 k (by omega)).trans (tg5_free (.inl hk))
       have lo6 : ∀ k, k ≤ q → G6 k = H2 k := fun k hk => (hl6 k (by omega) (tg5_free (.inl hk)) (by omega)).trans (by rw [Heap.put_ne _ _ (by omega), Heap.put_ne _ _ (by omega), Heap.put_ne _ _ (by omega), Heap.put_ne _ _ (by omega), Heap.put_ne _ _ (by omega), Heap.put_ne _ _ (by omega), Heap.put_ne _ _ (by omega), Heap.put_ne _ _ (by omega), Heap.put_ne _ _ (by omega), Heap.put_ne _ _ (by omega), Heap.put_ne _ _ (by omega)])
       have r2 := (lo6 n (by omega)).trans r2
       try simp only [go_sem, seval, r2, strip_ptr, strip_out, (show (n = q + 1) = False by simp; omega), (show (n = q + 1 + 1) = False by simp; omega), (show (n = q + 1 + 1 + 1) = False by simp; omega), (show (n = q + 1 + 1 + 1 + 1) = False by simp; omega), (show (n = q + 1 + 1 + 1 + 1 + 1) = False by simp; omega), (show (n = q + 1 + 1 + 1 + 1 + 1 + 1) = False by simp; omega), (show (n = q + 2) = False by simp; omega), (show (n = q + 3) = False by simp; omega), (show (n = q + 4) = False by simp; omega), (show (n = q + 5) = False by simp; omega), (show (n = q + 6) = False by simp; omega)]
       repeat refine peel ?_
       refine hK _ _ _ ?_; clear hK K
       refine awp_reg zs [6, 24] fun K hK => ?_
       try simp only [go_sem, seval, r2, strip_ptr, strip_out]
       repeat refine peel ?_
       refine callK_useK (args' := [.loc (q + 1) 0 0 0 [], oAV k0 s clock t vn mj l, entsAV m]) Try.func28 rfl rfl rfl (c_law_calls (q + 1) (q + 6) _ _ ta6 G6 m6 hQ6 k0 s clock t vn mj l m (by omega) (by omega) (by simp [callsE])) ?_ ?_
       rotate_left
       · intro p H' n' h; cases h.1
       rintro rr G7 m7 ⟨hr2, hn7', ⟨ta7, hQ7, ht7⟩, hl7⟩
       cases hr2
       have lo7 : ∀ k, k ≤ q → G7 k = H2 k := fun k hk => (hl7 k (by omega) (e6 k hk) (by omega)).trans (lo6 k hk)
       have hQ8 : KpE (q + 1) (q + 6) (0 + 300000015 + 300000015) ((callsE s clock t vn l) ++ (callsE s clock t vn m)) ta7 G7 m7 := by have h9 := hQ7; simp only [List.nil_append] at h9; exact h9
       obtain ⟨bk8, vW8, hob8, hW8, hbs8, hbl8⟩ := hQ8.read
       have hbk7 := hbk4.frame (H' := G7) (n' := m7) (fun k hk _ => lo7 k (by have := hbk4.lt k hk; omega)) (by omega)
       have hkl4 : A2.kb ≤ q := by omega
       have hob7 := (lo7 A2.kb hkl4).trans hob4
       have hW7 := (lo7 (n + 6) (by omega)).trans hW2
       have hob9 := hob7
       rw [hkb4] at hob9
       have hbL : AV.szs (bookL A2 bs2 bs2.length es2 es2.length) = 5 := rfl
       have hbL2 : (bookL A2 bs2 bs2.length es2 es2.length).length = 5 := rfl
       have hl8 : ((callsE s clock t vn l) ++ (callsE s clock t vn m)).length = 10 := rfl
       have hl9 : 25 ≤ ((ap25 (callsE s clock t vn l) (callsE s clock t vn m)) ++ ws).length := by rw [List.length_append, show (ap25 (callsE s clock t vn l) (callsE s clock t vn m)).length = 25 from rfl]; omega
       have hsm7 : ∀ (E : List Ent) (z : Nat), E.length < 4611686018427387904 → Ret Try.prog 18 [entsAV E, entsAV E] G7 z (.bool true) G7 z := fun E z hE => by have h9 := c_ref3_SameAll E E hE G7 z; rw [show decide (E = E) = true by simp] at h9; exact h9
       try simp only [go_sem, seval, r2, strip_ptr, strip_out]
       repeat refine peel ?_
       refine hK _ _ _ ?_; clear hK K
       refine awp_seq_k fun K12 hK12 => ?_
       refine awp_reg zs [6, 24, 25] fun K hK => ?_
       try simp only [go_sem, seval, r2, strip_ptr, strip_out]
       repeat refine peel ?_
       refine hK _ _ _ ?_; clear hK K
       refine awp_block ?_
       refine awp_loop (fun T' H' n' => ∃ (i : Nat), i ≤ 5 ∧ T' = tl [(6, .loc (n + 1) 0 0 0 []), (24, .loc (q + 1) 0 0 0 []), (25, .int .i64 i)] ∧ H' = G7 ∧ n' = m7) (fun T' _ _ => 5 - iv (T' 25)) ?_ ?_
       ·skip
        exact ⟨0, by omega, rfl, rfl, rfl⟩
       intro T1 H1 n1
       rintro ⟨i, hi, rfl, rfl, rfl⟩
       refine awp_seq_k fun K13 hK13 => ?_
       refine awp_reg zs [6, 24, 25, 323] fun K hK => ?_
       try simp only [go_sem, seval, r2, strip_ptr, strip_out]
       repeat refine peel ?_
       refine hK _ _ _ ?_; clear hK K
       refine awp_cnd (fun hb => ?_) (fun hb => ?_)
       ·skip
        have hi5 : i < 5 := by have := of_decide_eq_true hb; omega
        obtain ⟨a0, a5, a10, a15, a20⟩ := ap25_at s clock t vn l m ws hi5
        obtain ⟨b0, b5⟩ := ap10_at s clock t vn l m hi5
        have hE1 := hElen l hl i hi5
        have hE2 := hElen m hml i hi5
        have q0 : nth (((ap25 (callsE s clock t vn l) (callsE s clock t vn m)) ++ ws).map entsAV) i = entsAV ((callsE s clock t vn l).getD i []) := by rw [nth_map entsAV _ i (by omega), ← a0]; rfl
        have q10 : nth (((ap25 (callsE s clock t vn l) (callsE s clock t vn m)) ++ ws).map entsAV) (i + 10) = entsAV ((callsE s clock t vn m).getD i []) := by rw [nth_map entsAV _ (i + 10) (by omega), ← a10]; rfl
        have p0 : nth (((callsE s clock t vn l) ++ (callsE s clock t vn m)).map entsAV) i = entsAV ((callsE s clock t vn l).getD i []) := by rw [nth_map entsAV _ i (by omega), ← b0]; rfl
        have p5 : nth (((callsE s clock t vn l) ++ (callsE s clock t vn m)).map entsAV) (i + 5) = entsAV ((callsE s clock t vn m).getD i []) := by rw [nth_map entsAV _ (i + 5) (by omega), ← b5]; rfl
        have x0 : i < (((ap25 (callsE s clock t vn l) (callsE s clock t vn m)) ++ ws).map entsAV).length := by rw [List.length_map]; omega
        have x10 : i + 10 < (((ap25 (callsE s clock t vn l) (callsE s clock t vn m)) ++ ws).map entsAV).length := by rw [List.length_map]; omega
        have y0 : i < (((callsE s clock t vn l) ++ (callsE s clock t vn m)).map entsAV).length := by rw [List.length_map]; omega
        have y5 : i + 5 < (((callsE s clock t vn l) ++ (callsE s clock t vn m)).map entsAV).length := by rw [List.length_map]; omega
        have x0' : i < ((ap25 (callsE s clock t vn l) (callsE s clock t vn m)) ++ ws).length := by omega
        have x10' : i + 10 < ((ap25 (callsE s clock t vn l) (callsE s clock t vn m)) ++ ws).length := by omega
        generalize (callsE s clock t vn l).getD i [] = E1 at *
        generalize (callsE s clock t vn m).getD i [] = E2 at *
        generalize ((ap25 (callsE s clock t vn l) (callsE s clock t vn m)) ++ ws).length = LN at *
        have w5 : IntKind.i64.wrap ((i : Int) + 5) = ((i + 5 : Nat) : Int) := w64 (by omega) (by omega)
        have w10 : IntKind.i64.wrap ((i : Int) + 10) = ((i + 10 : Nat) : Int) := w64 (by omega) (by omega)
        refine awp_skip ?_
        try simp only [go_sem, seval, r2, strip_ptr, strip_out]
        refine hK13 _ _ _ ?_
        first | clear hK13 K13 | skip
        refine awp_seq_k fun K14 hK14 => ?_
        refine awp_block ?_
        refine awp_drw rfl zs [6, 24, 25, 361] [.m, .q, .q, .q, .m, .q, .q, .m, .q, .q, .q, .m, .q, .q, .c, .q, .m, .m, .q, .q, .q, .m, .q, .q, .q, .m, .q, .q, .q, .m, .q, .q, .q, .c, .q, .q] (by kernel_rfl) (fun _ _ _ _ _ h => h) fun K hK => ?_
        try simp only [go_sem, seval, r2, strip_ptr, strip_out, Bool.false_or, Bool.or_true, cond_true, hob8, hW8, hbs8, hbl8, hob9, hW7, hbL, hbL2, hl8, w5, w10, q0, q10, p0, p5, Int.toNat_natCast, show (!true) = false from rfl, show (false == false) = true from rfl, true_implies, forall_const]
        repeat (first | (refine And.intro ?_ ?_; · first | assumption | exact ⟨rfl, by omega, by omega⟩ | exact ⟨by omega, by omega⟩ | (simp; omega) | omega | (intro _; omega)) | refine peel ?_)
        refine callQG_use Try.func18 rfl rfl rfl (fun _ n => (hsm7 E1 _ hE1)) ?_
        try simp only [go_sem, seval, r2, strip_ptr, strip_out, Bool.false_or, Bool.or_true, cond_true, hob8, hW8, hbs8, hbl8, hob9, hW7, hbL, hbL2, hl8, w5, w10, q0, q10, p0, p5, Int.toNat_natCast, show (!true) = false from rfl, show (false == false) = true from rfl, true_implies, forall_const]
        repeat (first | (refine And.intro ?_ ?_; · first | assumption | exact ⟨rfl, by omega, by omega⟩ | exact ⟨by omega, by omega⟩ | (simp; omega) | omega | (intro _; omega)) | refine peel ?_)
        refine callQG_use Try.func18 rfl rfl rfl (fun _ n => (hsm7 E2 _ hE2)) ?_
        try simp only [go_sem, seval, r2, strip_ptr, strip_out, Bool.false_or, Bool.or_true, cond_true, hob8, hW8, hbs8, hbl8, hob9, hW7, hbL, hbL2, hl8, w5, w10, q0, q10, p0, p5, Int.toNat_natCast, show (!true) = false from rfl, show (false == false) = true from rfl, true_implies, forall_const]
        repeat (first | (refine And.intro ?_ ?_; · first | assumption | exact ⟨rfl, by omega, by omega⟩ | exact ⟨by omega, by omega⟩ | (simp; omega) | omega | (intro _; omega)) | refine peel ?_)
        refine hK _ _ _ ?_; clear hK K
        refine awp_cnd (fun hb => ?_) (fun hb => ?_)
        ·skip
         exact absurd hb (by decide)
         --dead
        ·skip
         refine awp_skip ?_
         try simp only [go_sem, seval, r2, strip_ptr, strip_out]
         refine hK14 _ _ _ ?_
         first | clear hK14 K14 | skip
         refine awp_reg1 zs [6, 24, 25] fun K hK => ?_
         try simp only [go_sem, seval, r2, strip_ptr, strip_out]
         repeat refine peel ?_
         refine hK _ _ _ ?_; clear hK K
         try simp only [go_sem, seval, r2, strip_ptr, strip_out]
         exact ⟨⟨i + 1, by omega, by rw [w1 (by omega)]⟩, by rw [w1 (by omega)]; simp; omega⟩
       ·skip
        refine awp_exit ?_
        try simp only [go_sem, seval, r2, strip_ptr, strip_out]
        refine hK12 _ _ _ ?_
        first | clear hK12 K12 | skip
        refine awp_reg zs [4] fun K hK => ?_
        try simp only [go_sem, seval, r2, strip_ptr, strip_out, true_implies, forall_const, cond_true]
        repeat refine peel ?_
        refine callK_use Try.func27 rfl rfl rfl ((by have h := c_law_stands (.osl (n + 6) vW 0 ((ap25 (callsE s clock t vn l) (callsE s clock t vn m)) ++ ws).length) tg2 A2 bs2 es2 _ _ hbk7 hob7; rw [hkb4] at h; exact h)) ?_
        try simp only [go_sem, seval, r2, strip_ptr, strip_out, true_implies, forall_const, cond_true]
        repeat refine peel ?_
        refine callG_use Try.func11 rfl rfl rfl (fun _ => (c_law_started _ _)) ?_
        try simp only [go_sem, seval, r2, strip_ptr, strip_out, true_implies, forall_const, cond_true]
        repeat refine peel ?_
        refine hK _ _ _ ?_; clear hK K
        refine awp_ret ?_
        try simp only [go_sem, seval, r2, strip_ptr, strip_out]
        exact ⟨_, rfl, fun k hk => (lo7 k (by omega)).trans (hlow2 k hk), .kl trivial⟩
end Go.Proofs.Ytijhkfhflpmajaa