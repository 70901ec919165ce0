/- Own layer: the walk through the next word of a condition. Of the program; no condition. -/
import Derived.Test.YtifnhpmeoogedaaGreatDoorPK
import Derived.Test.YtifnhpmeoogedaaGreatDoorPF
import Derived.Test.YtifnhpmeoogedaaGreatDoorPD
import Derived.Test.YtifnhpmeoogedaaGreatDoorPG
import Derived.Test.YtifnhpmeoogedaaGreatDoorPE
set_option linter.unusedSimpArgs false
set_option linter.unusedVariables false
namespace Go.Proofs.YtifnhpmeoogedaaGreatDoor
open Go Go.Sx Go.Rt Go.Proofs Tryz
theorem c_sl_HasPrefix (a b : List UInt8) (hb : b.length ≤ 1099511627776) (H : Heap) (n : Nat) : Ret prog 197 [.str a, .str b] H n (.bool (b.isPrefixOf a)) H n := by
 refine Zc func197 rfl ntmps197 (congrArg Array.toList results197) (by simp) ?_
 simp only [go_sem]
 refine Za zs [0, 1] fun K hK => ?_
 try simp only [go_sem, seval]
 apply hK; clear hK K
 refine Za zs [4] fun K hK => ?_
 try simp only [go_sem, seval, Int.toNat_natCast, Option.getD_some, Option.getD_none, List.drop_zero]
 repeat refine peel ?_
 apply hK; clear hK K
 refine Ze ?_
 try simp only [go_sem, seval]
 refine congrArg (fun b => ARes.val (AV.bool b)) ?_
 rw [Bool.eq_iff_iff, List.isPrefixOf_iff_prefix, List.prefix_iff_eq_take]
 by_cases h : b.length ≤ a.length
 ·rw [decide_eq_true (by omega)]; simp; exact eq_comm
 ·rw [decide_eq_false (by omega)]; simp; intro e; have := congrArg List.length e; simp at this; omega
theorem Qv (a b : List UInt8) (hb : b.length ≤ 1099511627776) (H : Heap) (n : Nat) : Ret prog 184 [.str a, .str b] H n (.bool (b.isPrefixOf a)) H n := by
 refine Zc func184 rfl ntmps184 (congrArg Array.toList results184) (by simp) ?_
 simp only [go_sem]
 refine ZB zs [0, 1] ?_
 refine Za zs [4] fun K hK => ?_
 try simp only [go_sem, seval]
 refine Zg func197 rfl rfl rfl ((c_sl_HasPrefix a b hb _ _)) ?_
 try simp only [go_sem, seval]
 apply hK; clear hK K
 refine Ze ?_
 try simp only [go_sem, seval]
theorem wordF_end {t : List UInt8} {p q : Nat} (h : Yj (fun c => c.toNat == 32) t p = q) (hq : t.length ≤ q) : wordF t p = .ok (⟨0, q, [], 0, []⟩, q) := by
 unfold wordF
 simp only [h]
 rw [List.drop_eq_nil_of_le hq]
theorem wordF_at {t : List UInt8} {p q : Nat} (h : Yj (fun c => c.toNat == 32) t p = q) (hq : q < t.length) : wordF t p =
   if smallQ (t.getD q 0) then .ok (⟨1, q, (t.drop q).takeWhile Vg, 0, []⟩, Yj Vg t q)
   else if Yp (t.getD q 0) then (match numF t q with | some x => .ok x | none => .error q)
   else if (t.getD q 0).toNat = 34 then (match strF t q with | some x => .ok x | none => .error q)
   else match X7.find? (fun s => s.isPrefixOf (t.drop q)) with
     | some s => .ok (⟨4, q, s, 0, []⟩, q + s.length)
     | none => .error q := by
 unfold wordF
 simp only [h]
 rw [drop_at hq]
 rfl
theorem nth_signs {i : Nat} (h : i < 9) : nth [AV.str [33, 61], AV.str [60, 61], AV.str [62, 61], AV.str [61], AV.str [60], AV.str [62], AV.str [94], AV.str [40], AV.str [41]] i = AV.str (X7.getD i []) := by
 rcases (by omega : i = 0 ∨ i = 1 ∨ i = 2 ∨ i = 3 ∨ i = 4 ∨ i = 5 ∨ i = 6 ∨ i = 7 ∨ i = 8) with rfl | rfl | rfl | rfl | rfl | rfl | rfl | rfl | rfl <;> rfl
theorem signs_len {i : Nat} (h : i < 9) : (X7.getD i []).length ≤ 2 := by
 rcases (by omega : i = 0 ∨ i = 1 ∨ i = 2 ∨ i = 3 ∨ i = 4 ∨ i = 5 ∨ i = 6 ∨ i = 7 ∨ i = 8) with rfl | rfl | rfl | rfl | rfl | rfl | rfl | rfl | rfl <;> decide
theorem signs_drop {i : Nat} (h : i < 9) : X7.drop i = X7.getD i [] :: X7.drop (i + 1) := by
 rcases (by omega : i = 0 ∨ i = 1 ∨ i = 2 ∨ i = 3 ∨ i = 4 ∨ i = 5 ∨ i = 6 ∨ i = 7 ∨ i = 8) with rfl | rfl | rfl | rfl | rfl | rfl | rfl | rfl | rfl <;> rfl
theorem frzQ {H : Heap} {n : Nat} (fs : List Fml) (t : List UInt8) (a b c d e : Int) (tx : List UInt8) {ko ver l : Nat} (hk : ko < n) : Frz H n (.agg [Zu fs, .str t, .int .i64 a, .agg [.int .i64 b, .int .i64 c, .str tx, .int .i64 d, .nilsl], .osl ko ver 0 l, .int .i64 e]) (.agg [Zu fs, .str t, .int .i64 a, .agg [.int .i64 b, .int .i64 c, .str tx, .int .i64 d, .sl 1 []], .osl ko ver 0 l, .int .i64 e]) :=
 .agg (.cons (.kl (kl_schQ fs n)) (.cons (.kl trivial) (.cons (.kl trivial) (.cons (.agg (.cons (.kl trivial) (.cons (.kl trivial) (.cons (.kl trivial) (.cons (.kl trivial) (.cons .nilsl .nil)))))) (.cons (.kl hk) (.cons (.kl trivial) .nil))))))
set_option maxHeartbeats 1600000 in
theorem Jr (fs : List Fml) (t : List UInt8) (s : Qst) (kr ko ver : Nat) (ht : t.length ≤ 512) (hf : s.far ≤ t.length) (H : Heap) (n : Nat) (h : QdH fs t kr ko s ver H n) :
   Zx prog 161 [.loc kr 0 0 0 []] H n (QdK fs t kr ko H n ((Q6 t s).map fun x => (.tup [], x))) := by
 have hR := h.r
 have hR1 := hR
 unfold qdO at hR1
 have hk := h.lr
 have hko := h.lo
 have hne := h.ne
 have hszs : (Zu fs).sz = 1 := rfl
 have hszb : ∀ b, (bys b).sz = 1 := fun _ => rfl
 have hw2 : Yj (fun c => c.toNat == 32) t s.far ≤ t.length := (Vn (fun c => c.toNat == 32) t s.far hf).2
 obtain ⟨q, hq⟩ : ∃ q, Yj (fun c => c.toNat == 32) t s.far = q := ⟨_, rfl⟩
 rw [hq] at hw2
 obtain ⟨r, hr⟩ : ∃ r, r = ((Q6 t s).map fun x => ((.tup [] : AV), x)) := ⟨_, rfl⟩
 rw [← hr]
 unfold Q6 at hr
 have hcut := whileF_cut Vg t q
 have hx := hszs
 have fin : ∀ {H1 : Heap} {a : AV} {s2 : Qst} {v2 : Nat}, (∀ k, k ≠ kr → k ≠ ko → H1 k = H k) → H1 ko = some (outO s2 v2) → r = .ok (.tup [], s2) → Frz (H1.put kr (some (.arr 0 10 [a]))) n a (qdAV fs t s2 ko v2) → QdE fs t kr ko H n r (.val (.tup [])) (H1.put kr (some (.arr 0 10 [a]))) n := fun h0 h1 h2 h3 =>
   QdE.val h2 (Heap.put_same _ _ _) h3 (by rw [Heap.put_ne _ _ hne.symm]; exact h1) (fun k _ e2 e3 => (Heap.put_ne _ _ e2).trans (h0 k e2 e3)) (.tup .nil)
 refine QdK.fin hk hko hne ?_
 refine Zc func161 rfl ntmps161 (congrArg Array.toList results161) (by simp) ?_
 simp only [go_sem]
 refine Za zs [0, 2] fun K hK => ?_
 try simp only [go_sem, seval, hR1, wdAV]
 refine Zg func177 rfl rfl rfl ((hq ▸ VZ fs t s kr ko ver ht s.far hf (fun c => c.toNat == 32) _ func178 rfl rfl _ _ (fun b _ _ => c_query_blank b _ _) hR)) ?_
 try simp only [go_sem, seval]
 apply hK; clear hK K
 refine Zb fun K1 hK1 => ?_
 refine Za zs [0, 2, 18] fun K hK => ?_
 try simp only [go_sem, seval, hR1, wdAV]
 apply hK; clear hK K
 refine Zf ?_ ?_ <;> intro hb
 ·skip
  have hge : t.length ≤ q := by have h9 := hb; simp at h9; omega
  rw [wordF_end hq hge] at hr
  refine Za zs [] fun K hK => ?_
  try simp only [go_sem, seval, hR1, wdAV]
  repeat refine peel ?_
  apply hK; clear hK K
  refine Ze ?_
  try simp only [go_sem, seval]
  exact fin (s2 := { s with far := q, nxt := ⟨0, q, [], 0, []⟩ }) (fun _ _ _ => rfl) h.o hr (frzQ _ _ _ _ _ _ _ _ hko)
 have hlt : q < t.length := by have h9 := hb; simp at h9; omega
 rw [wordF_at hq hlt] at hr
 obtain ⟨c, hc⟩ : ∃ c, c = t.getD q 0 := ⟨_, rfl⟩
 rw [← hc] at hr
 have hcl := c.toNat_lt
 refine Zd ?_
 try simp only [go_sem, seval]
 apply hK1
 clear hK1 K1
 refine Za zs [0, 2, 3] fun K hK => ?_
 try simp only [go_sem, seval, hR1, wdAV, Int.toNat_natCast, ← hc]
 repeat refine peel ?_
 apply hK; clear hK K
 refine Zk ?_
 refine Za zs [0, 2, 3, 62] fun K hK => ?_
 try simp only [go_sem, seval]
 refine Zg func179 rfl rfl rfl ((QB c _ _)) ?_
 try simp only [go_sem, seval]
 apply hK; clear hK K
 refine Zf ?_ ?_ <;> intro hb
 ·skip
  rw [if_pos hb] at hr
  obtain ⟨u1, u2⟩ := Vn Vg t q (by omega)
  refine Za zs [0, 2] fun K hK => ?_
  try simp only [go_sem, seval]
  refine Zg func177 rfl rfl rfl ((VZ fs t s kr ko ver ht q (by omega) Vg _ func180 rfl rfl _ _ (fun b _ _ => c_query_name b _ _) hR)) ?_
  try simp only [go_sem, seval, hR1, wdAV]
  apply hK; clear hK K
  refine awp_drw1 rfl zs [] [.m, .m, .m, .q, .q, .q, .m, .m, .q, .q, .q, .q, .q, .q, .q, .w []] (by kernel_rfl) (fun _ _ _ _ _ h => h) fun K hK => ?_
  try simp only [go_sem, seval, Int.toNat_natCast, Option.getD_some, hcut]
  repeat refine peel ?_
  apply hK; clear hK K
  try simp only [go_sem, seval]
  exact fin (s2 := { s with far := Yj Vg t q, nxt := ⟨1, q, (t.drop q).takeWhile Vg, 0, []⟩ }) (fun _ _ _ => rfl) h.o hr (frzQ _ _ _ _ _ _ _ _ hko)
 rw [if_neg (by rw [hb]; simp)] at hr
 refine Za zs [0, 2, 3, 86] fun K hK => ?_
 try simp only [go_sem, seval]
 refine Zg func181 rfl rfl rfl ((V3 c _ _)) ?_
 try simp only [go_sem, seval]
 apply hK; clear hK K
 refine Zf ?_ ?_ <;> intro hb
 ·skip
  rw [if_pos hb] at hr
  refine Zl zs [] fun K hK => ?_
  try simp only [go_sem, seval]
  refine Zi (args' := [.loc kr 0 0 0 [], .int .i64 q]) func182 rfl rfl rfl (c_query_number fs t s kr ko ver ht q (by omega) _ _ h) ?_ ?_
  rotate_left
  ·skip
   rintro q9 H' n' hc
   refine hc.up (fun p9 he => ?_) (Nat.le_refl _) (fun _ _ _ _ => rfl)
   cases hn : numF t q with
   | none => rw [hn] at he hr; cases he; exact hr
   | some x => rw [hn] at he; cases he
  rintro rr H1 n1 hc
  obtain ⟨s2, v2, he, h2, rfl, hl⟩ := hc.get h
  have hR1 := h2.r
  have hO2 := h2.o
  unfold qdO at hR1
  obtain ⟨x, hn⟩ : ∃ x, numF t q = some x := by
    cases hn : numF t q with
    | none => rw [hn] at he; cases he
    | some x => exact ⟨x, rfl⟩
  rw [hn] at he hr
  cases he
  try simp only [go_sem, seval, hR1, wdAV]
  apply hK; clear hK K
  try simp only [go_sem, seval]
  exact fin (s2 := { s with far := x.2, nxt := x.1 }) hl hO2 hr (.kl (Jk fs t { s with far := x.2, nxt := x.1 } (ver := v2) hko))
 rw [if_neg (by rw [hb]; simp)] at hr
 refine Za zs [0, 2, 95] fun K hK => ?_
 try simp only [go_sem, seval]
 apply hK; clear hK K
 refine Zf ?_ ?_ <;> intro hb
 ·skip
  have k0 : c.toNat = 34 := by have h9 := hb; simp at h9; omega
  rw [if_pos k0] at hr
  refine Zl zs [] fun K hK => ?_
  try simp only [go_sem, seval]
  refine Zi (args' := [.loc kr 0 0 0 [], .int .i64 q]) func183 rfl rfl rfl (c_query_str fs t s kr ko ver ht q hlt _ _ h) ?_ ?_
  rotate_left
  ·skip
   rintro q9 H' n' hc
   refine hc.up (fun p9 he => ?_) (Nat.le_refl _) (fun _ _ _ _ => rfl)
   cases hn : strF t q with
   | none => rw [hn] at he hr; cases he; exact hr
   | some x => rw [hn] at he; cases he
  rintro rr H1 n1 hc
  obtain ⟨s2, v2, he, h2, rfl, hl⟩ := hc.get h
  have hR1 := h2.r
  have hO2 := h2.o
  unfold qdO at hR1
  obtain ⟨x, hn⟩ : ∃ x, strF t q = some x := by
    cases hn : strF t q with
    | none => rw [hn] at he; cases he
    | some x => exact ⟨x, rfl⟩
  rw [hn] at he hr
  cases he
  try simp only [go_sem, seval, hR1, wdAV]
  apply hK; clear hK K
  try simp only [go_sem, seval]
  exact fin (s2 := { s with far := x.2, nxt := x.1 }) hl hO2 hr (.kl (Jk fs t { s with far := x.2, nxt := x.1 } (ver := v2) hko))
 have k0 : ¬ c.toNat = 34 := by have h9 := hb; simp at h9; omega
 rw [if_neg k0] at hr
 refine Zb fun K2 hK2 => ?_
 refine Za zs [0, 2, 34, 35] fun K hK => ?_
 try simp only [go_sem, seval]
 repeat refine peel ?_
 apply hK; clear hK K
 refine Zk ?_
 refine Zy (fun T' H' n' => ∃ i : Nat, i ≤ 9 ∧ X7.find? (fun s => s.isPrefixOf (t.drop q)) = (X7.drop i).find? (fun s => s.isPrefixOf (t.drop q)) ∧ T' = tl [(0, .loc kr 0 0 0 []), (2, .int .i64 q), (34, .agg [AV.str [33, 61], AV.str [60, 61], AV.str [62, 61], AV.str [61], AV.str [60], AV.str [62], AV.str [94], AV.str [40], AV.str [41]]), (35, .int .i64 i)] ∧ H' = H ∧ n' = n) (fun T' _ _ => 9 - iv (T' 35)) ?_ ?_
 ·skip
  exact ⟨0, by omega, rfl, rfl, rfl, rfl⟩
 intro T1 H1 n1
 rintro ⟨i, hi, hfd, rfl, rfl, rfl⟩
 refine Za zs [0, 2, 34, 35, 36] fun K hK => ?_
 try simp only [go_sem, seval, Int.toNat_natCast]
 apply hK; clear hK K
 refine Zb fun K3 hK3 => ?_
 refine Zf ?_ ?_ <;> intro hb
 ·skip
  have hi9 : i < 9 := by have := of_decide_eq_true hb; omega
  have hnth := nth_signs hi9
  have hsl := signs_len hi9
  rw [signs_drop hi9] at hfd
  have hx : IntKind.i64.wrap ((i : Int) + 1) = ((i + 1 : Nat) : Int) := w1 (by omega)
  refine Zd ?_
  try simp only [go_sem, seval, Int.toNat_natCast]
  apply hK3
  clear hK3 K3
  refine Zb fun K4 hK4 => ?_
  refine Zk ?_
  refine Za zs [0, 2, 5, 34, 35] fun K hK => ?_
  try simp only [go_sem, seval, Int.toNat_natCast, hnth]
  repeat (first | refine peel ?_ | refine ⟨by exact ⟨by omega, by omega, by simp [AV.sz], by simp [AV.isAgg]⟩, ?_⟩)
  apply hK; clear hK K
  refine Za zs [0, 2, 5, 34, 35, 45] fun K hK => ?_
  try simp only [go_sem, seval, hR1, wdAV, Int.toNat_natCast, Option.getD_some, Option.getD_none, List.take_length]
  repeat refine peel ?_
  refine Zg func184 rfl rfl rfl ((Qv (t.drop q) (X7.getD i []) (by omega) _ _)) ?_
  apply hK; clear hK K
  refine Zf ?_ ?_ <;> intro hb
  ·skip
   rw [List.find?_cons_of_pos (by simpa using hb)] at hfd
   rw [hfd] at hr
   have hx : IntKind.i64.wrap ((q : Int) + ((X7.getD i []).length : Int)) = ((q + (X7.getD i []).length : Nat) : Int) := by rw [w64 (by omega) (by omega)]; omega
   refine Za zs [] fun K hK => ?_
   try simp only [go_sem, seval, hR1, wdAV, hx, Int.toNat_natCast]
   repeat refine peel ?_
   apply hK; clear hK K
   refine Ze ?_
   try simp only [go_sem, seval, Int.toNat_natCast]
   exact fin (s2 := { s with far := q + (X7.getD i []).length, nxt := ⟨4, q, X7.getD i [], 0, []⟩ }) (fun _ _ _ => rfl) h.o hr (frzQ _ _ _ _ _ _ _ _ hko)
  rw [List.find?_cons_of_neg (by rw [hb]; simp)] at hfd
  refine Zd ?_
  try simp only [go_sem, seval, Int.toNat_natCast]
  apply hK4
  clear hK4 K4
  refine Zl zs [0, 2, 34, 35] fun K hK => ?_
  try simp only [go_sem, seval, hx, Int.toNat_natCast]
  apply hK; clear hK K
  try simp only [go_sem, seval, Int.toNat_natCast]
  exact ⟨⟨i + 1, by omega, hfd, rfl⟩, by omega⟩
 have hi9 : i = 9 := by have := of_decide_eq_false hb; omega
 refine Zz ?_
 try simp only [go_sem, seval, Int.toNat_natCast]
 apply hK2
 refine Zl zs [] fun K hK => ?_
 try simp only [go_sem, seval]
 refine Zi (args' := [.int .i64 q]) func163 rfl rfl rfl (Yn q _ _) ?_ ?_
 ·skip
  rintro rr H' n' ⟨rfl, rfl, h1⟩
  cases h1
 rintro q9 H' n' ⟨rfl, rfl, h1⟩
 cases h1
 refine QdE.err ?_ (Nat.le_refl _) (fun k _ _ _ => rfl)
 subst hi9
 rw [hr, hfd]; rfl
theorem Yq {ε α β : Type} {f : α → β} {x : Except ε α} {p : ε} (h : x.map f = .error p) : x = .error p := by
 cases x with
 | error e => cases h; rfl
 | ok a => cases h
theorem bind_err {ε α β : Type} {f : α → Except ε β} {x : Except ε α} {p : ε} (h : x = .error p) : x.bind f = .error p := by rw [h]; rfl
theorem QdK.got {fs : List Fml} {t : List UInt8} {kr ko : Nat} {H H' : Heap} {n n' : Nat} {r : Except Nat (AV × Qst)} {v : AV} (hk : QdK fs t kr ko H n r (.val v) H' n') (h1 : kr < n) (h2 : ko < n) (h3 : kr ≠ ko) : ∃ s ver, r = .ok (v, s) ∧ QdH fs t kr ko s ver H' n ∧ n = n' ∧ ∀ k, k ≠ kr → k ≠ ko → H' k = H k := by
 obtain ⟨s, ver, h1', rfl, rfl⟩ := hk.val
 refine ⟨s, ver, h1', ⟨h1, h2, h3, Heap.put_same _ _ _, ?_⟩, rfl, fun k e1 e2 => ?_⟩ <;> unfold qst
 ·rw [Heap.put_ne _ _ h3.symm, Heap.put_same]
 ·rw [Heap.put_ne _ _ e1, Heap.put_ne _ _ e2]
theorem YI (fs : List Fml) (t : List UInt8) (s : Qst) (kr ko ver : Nat) (ht : t.length ≤ 512) (hf : s.far ≤ t.length) (hl : s.out.length ≤ 1000000) (H : Heap) (n : Nat) (h : QdH fs t kr ko s ver H n) :
   Zx prog 187 [.loc kr 0 0 0 []] H n (QdK fs t kr ko H n ((Vs t s).map fun x => (wdAV x.1, x.2))) := by
 have hR1 := h.r
 unfold qdO at hR1
 have hO1 := h.o
 unfold outO at hO1
 have hk := h.lr
 have hko := h.lo
 have hne := h.ne
 have hszs : (Zu fs).sz = 1 := rfl
 have hszb : ∀ b, (bys b).sz = 1 := fun _ => rfl
 have g1 : (kr = n) = False := by simp; omega
 have g2 : (kr = n + 1) = False := by simp; omega
 have g3 : (ko = n) = False := by simp; omega
 have g4 : (ko = n + 1) = False := by simp; omega
 have g5 : (n = n + 1) = False := by simp
 have g6 : (n + 1 = n) = False := by simp
 have g7 : (kr = ko) = False := by simp; omega
 have g8 : (ko = kr) = False := by simp; omega
 have g9 : (n = kr) = False := by simp; omega
 have f1 : (n + 1 = kr) = False := by simp; omega
 have f2 : (n = ko) = False := by simp; omega
 have f3 : (n + 1 = ko) = False := by simp; omega
 have e1 : List.take s.out.length (List.map wdAV s.out) = List.map wdAV s.out := List.take_of_length_le (by simp)
 have hB := hszs
 obtain ⟨r, hr⟩ : ∃ r, r = ((Vs t s).map fun x => (wdAV x.1, x.2)) := ⟨_, rfl⟩
 rw [← hr]
 unfold Vs at hr
 refine QdK.fin hk hko hne ?_
 refine Zc func187 rfl ntmps187 (congrArg Array.toList results187) (by simp) ?_
 simp only [go_sem]
 refine Za zs [0, 2] fun K hK => ?_
 try simp only [go_sem, seval]
 apply hK; clear hK K
 refine Za zs [0, 2, 3] fun K hK => ?_
 try simp only [go_sem, seval, hR1, wdAV, g1]
 apply hK; clear hK K
 refine YF rfl zs [0, 2, 3] [.m, .m, .q, .q, .q, .q, .q, .w [], .q, .q, .w []] (by kernel_rfl) (fun _ _ _ _ _ h => h) fun K hK => ?_
 try simp only [go_sem, seval, hR1, hO1, wdAV, g1, g2, g3, g4, g7, e1, List.length_map]
 repeat (first | refine peel ?_ | (refine And.intro ?_ ?_; · first | exact ⟨rfl, by simp [AV.sz, AV.szs, AV.memOK, wdAV, bys]⟩ | exact ⟨by omega, .inr trivial, by omega, by omega⟩))
 apply hK; clear hK K
 refine Za zs [2, 3] fun K hK => ?_
 try simp only [go_sem, seval]
 refine Zi (args' := [.loc kr 0 0 0 []]) func161 rfl rfl rfl (Jr fs t { s with out := s.out ++ [s.nxt] } kr ko (ver + 1) ht hf _ _ ?_) ?_ ?_
 ·skip
  exact ⟨by omega, by omega, hne, by rw [Heap.put_same]; simp only [qdO, List.length_append, List.length_singleton]; rfl, by rw [Heap.put_ne _ _ hne.symm, Heap.put_same]; simp only [outO, List.map_append]; rfl⟩
 rotate_left
 ·skip
  rintro q9 H' n' hc
  refine hc.up (fun p9 he => ?_) (by omega) (fun k e1 e2 e3 => by simp only [Heap.put_get]; (repeat rw [if_neg (by omega)]))
  rw [Yq he] at hr; exact hr
 rintro rr H1 n1 hc
 obtain ⟨s2, v2, he, h2, rfl, hl2⟩ := hc.got (by omega) (by omega) hne
 have hB : H1 (n + 1) = some (.arr 0 5 [wdAV s.nxt]) := (hl2 _ (by omega) (by omega)).trans (by rw [Heap.put_ne _ _ (by omega), Heap.put_ne _ _ (by omega), Heap.put_same]; rfl)
 have hR1 : H1 n = some (.arr 0 5 [.agg [.int .i64 0, .int .i64 0, .str [], .int .i64 0, .nilsl]]) := (hl2 _ (by omega) (by omega)).trans (by rw [Heap.put_ne _ _ (by omega), Heap.put_ne _ _ (by omega), Heap.put_ne _ _ (by omega), Heap.put_same])
 obtain ⟨x, hx, hy⟩ := map_ok he
 cases hy
 rw [hx] at hr
 apply hK; clear hK K
 refine Za zs [2] fun K hK => ?_
 try simp only [go_sem, seval, hR1, hB, wdAV]
 apply hK; clear hK K
 refine Ze ?_
 try simp only [go_sem, seval]
 exact QdE.ok (s := s2) hr (h2.on (Heap.put_ne _ _ (by omega)) (Heap.put_ne _ _ (by omega)) (Nat.le_refl _)) hko (fun k e1 e2 e3 => (Heap.put_ne _ _ (by omega)).trans ((hl2 k e2 e3).trans (by simp only [Heap.put_get]; (repeat rw [if_neg (by omega)])))) (.kl (kl_wdAV _ _))
theorem Jt (fs : List Fml) (t : List UInt8) (s : Qst) (kr ko ver : Nat) (ht : t.length ≤ 512) (hf : s.far ≤ t.length) (hl : s.out.length ≤ 1000000) (hd : s.deep ≤ 1000) (H : Heap) (n : Nat) (h : QdH fs t kr ko s ver H n) :
   Zx prog 203 [.loc kr 0 0 0 []] H n (QdK fs t kr ko H n ((openF t s).map fun x => (.tup [], x))) := by
 have hR1 := h.r
 unfold qdO at hR1
 have hk := h.lr
 have hko := h.lo
 have hne := h.ne
 have hszs : (Zu fs).sz = 1 := rfl
 have hszb : ∀ b, (bys b).sz = 1 := fun _ => rfl
 have e0 : IntKind.i64.wrap ((s.deep : Int) + 1) = ((s.deep + 1 : Nat) : Int) := by rw [w64 (by omega) (by omega)]; omega
 obtain ⟨r, hr⟩ : ∃ r, r = ((openF t s).map fun x => ((.tup [] : AV), x)) := ⟨_, rfl⟩
 rw [← hr]
 unfold openF at hr
 refine QdK.fin hk hko hne ?_
 refine Zc func203 rfl ntmps203 (congrArg Array.toList results203) (by simp) ?_
 simp only [go_sem]
 refine Za zs [0] fun K hK => ?_
 try simp only [go_sem, seval, hR1, wdAV, e0]
 apply hK; clear hK K
 refine Zb fun K1 hK1 => ?_
 refine Za zs [0, 13] fun K hK => ?_
 try simp only [go_sem, seval]
 apply hK; clear hK K
 refine Zf ?_ ?_ <;> intro hb
 ·skip
  have hb1 : 16 < s.deep + 1 := by have := of_decide_eq_true hb; omega
  rw [if_pos hb1] at hr
  refine Zl zs [0] fun K hK => ?_
  try simp only [go_sem, seval]
  refine Zi (args' := [.int .i64 s.nxt.pos]) func163 rfl rfl rfl (Yn s.nxt.pos _ _) ?_ ?_
  ·skip
   rintro rr H' n' ⟨rfl, rfl, h1⟩
   cases h1
  rintro q9 H' n' ⟨rfl, rfl, h1⟩
  cases h1
  exact QdE.err hr (Nat.le_refl _) (fun k _ e2 _ => Heap.put_ne _ _ e2)
 have hb1 : ¬ 16 < s.deep + 1 := by have := of_decide_eq_false hb; omega
 rw [if_neg hb1] at hr
 refine Zd ?_
 try simp only [go_sem, seval]
 apply hK1
 clear hK1 K1
 refine Zl zs [] fun K hK => ?_
 try simp only [go_sem, seval]
 refine Zi (args' := [.loc kr 0 0 0 []]) func187 rfl rfl rfl (YI fs t { s with deep := s.deep + 1 } kr ko ver ht hf hl _ _ ?_) ?_ ?_
 ·skip
  exact ⟨hk, hko, hne, Heap.put_same _ _ _, by rw [Heap.put_ne _ _ hne.symm]; exact h.o⟩
 rotate_left
 ·skip
  rintro q9 H' n' hc
  exact hc.up (fun p9 he => by rw [Yq he] at hr; exact hr) (Nat.le_refl _) (fun k _ e2 _ => Heap.put_ne _ _ e2)
 rintro rr H1 n1 hc
 obtain ⟨s2, v2, he, h2, rfl, hl2⟩ := hc.got hk hko hne
 obtain ⟨x, hx, hy⟩ := map_ok he
 cases hy
 rw [hx] at hr
 apply hK; clear hK K
 try simp only [go_sem, seval]
 exact QdE.ok hr h2 hko (fun k e1 e2 e3 => (hl2 k e2 e3).trans (Heap.put_ne _ _ e2)) (.tup .nil)
theorem Jq (fs : List Fml) (t : List UInt8) (s : Qst) (kr ko ver : Nat) (ht : t.length ≤ 512) (hf : s.far ≤ t.length) (hl : s.out.length ≤ 1000000) (w : Nat) (H : Heap) (n : Nat) (h : QdH fs t kr ko s ver H n) :
   Zx prog 212 [.loc kr 0 0 0 [], .int .i64 w] H n (QdK fs t kr ko H n ((wantF t w s).map fun x => (wdAV x.1, x.2))) := by
 have hR1 := h.r
 unfold qdO at hR1
 have hk := h.lr
 have hko := h.lo
 have hne := h.ne
 have hszs : (Zu fs).sz = 1 := rfl
 have hszb : ∀ b, (bys b).sz = 1 := fun _ => rfl
 have g1 : (kr = n) = False := by simp; omega
 obtain ⟨r, hr⟩ : ∃ r, r = ((wantF t w s).map fun x => (wdAV x.1, x.2)) := ⟨_, rfl⟩
 rw [← hr]
 unfold wantF at hr
 refine QdK.fin hk hko hne ?_
 refine Zc func212 rfl ntmps212 (congrArg Array.toList results212) (by simp) ?_
 simp only [go_sem]
 refine Za zs [0, 1, 4] fun K hK => ?_
 try simp only [go_sem, seval]
 apply hK; clear hK K
 refine Zb fun K1 hK1 => ?_
 refine Za zs [0, 4, 11] fun K hK => ?_
 try simp only [go_sem, seval, hR1, wdAV, g1]
 apply hK; clear hK K
 refine Zf ?_ ?_ <;> intro hb
 ·skip
  have hb1 : ¬ s.nxt.kind = w := by have h9 := hb; simp at h9; omega
  rw [if_neg hb1] at hr
  refine Zl zs [0, 4] fun K hK => ?_
  try simp only [go_sem, seval, hR1, wdAV, g1]
  refine Zi (args' := [.int .i64 s.nxt.pos]) func163 rfl rfl rfl (Yn s.nxt.pos _ _) ?_ ?_
  ·skip
   rintro rr H' n' ⟨rfl, rfl, h1⟩
   cases h1
  rintro q9 H' n' ⟨rfl, rfl, h1⟩
  cases h1
  exact QdE.err hr (by omega) (fun k _ e2 _ => Heap.put_ne _ _ (by omega))
 have hb1 : s.nxt.kind = w := by have h9 := hb; simp at h9; omega
 rw [if_pos hb1] at hr
 refine Zd ?_
 try simp only [go_sem, seval]
 apply hK1
 clear hK1 K1
 refine Za zs [4] fun K hK => ?_
 try simp only [go_sem, seval]
 refine Zi (args' := [.loc kr 0 0 0 []]) func187 rfl rfl rfl (YI fs t s kr ko ver ht hf hl _ _ ?_) ?_ ?_
 ·skip
  exact h.low (fun k hk9 => Heap.put_ne _ _ (by omega)) (by omega)
 rotate_left
 ·skip
  rintro q9 H' n' hc
  exact hc.up (fun p9 he => by rw [Yq he] at hr; exact hr) (by omega) (fun k _ e2 _ => Heap.put_ne _ _ (by omega))
 rintro rr H1 n1 hc
 obtain ⟨s2, v2, he, h2, rfl, hl2⟩ := hc.got (by omega) (by omega) hne
 have hR1 : H1 n = some (.arr 0 5 [.agg [.int .i64 0, .int .i64 0, .str [], .int .i64 0, .nilsl]]) := (hl2 _ (by omega) (by omega)).trans (Heap.put_same _ _ _)
 obtain ⟨x, hx, hy⟩ := map_ok he
 cases hy
 rw [hx] at hr
 try simp only [go_sem, seval, hR1, wdAV]
 apply hK; clear hK K
 refine Ze ?_
 try simp only [go_sem, seval]
 exact QdE.ok (v' := wdAV x.1) hr (h2.on (Heap.put_ne _ _ (by omega)) (Heap.put_ne _ _ (by omega)) (Nat.le_refl _)) hko (fun k e1 e2 e3 => (Heap.put_ne _ _ (by omega)).trans ((hl2 k e2 e3).trans (Heap.put_ne _ _ (by omega)))) (.kl (kl_wdAV _ _))
theorem Ux (fs : List Fml) (t : List UInt8) (s : Qst) (kr ko ver : Nat) (ht : t.length ≤ 512) (hf : s.far ≤ t.length) (hl : s.out.length ≤ 1000000) (ws : List (List UInt8)) (hws : ws.length ≤ 100) (H : Heap) (n : Nat) (h : QdH fs t kr ko s ver H n) :
   Zx prog 210 [.loc kr 0 0 0 [], .sl 1 (ws.map .str)] H n (QdK fs t kr ko H n ((signF t ws s).map fun x => (.str x.1, x.2))) := by
 have hR1 := h.r
 unfold qdO at hR1
 have hk := h.lr
 have hko := h.lo
 have hne := h.ne
 have hszs : (Zu fs).sz = 1 := rfl
 have hszb : ∀ b, (bys b).sz = 1 := fun _ => rfl
 have hx := hszs
 have hnth := hszs
 obtain ⟨r, hr⟩ : ∃ r, r = ((signF t ws s).map fun x => (AV.str x.1, x.2)) := ⟨_, rfl⟩
 rw [← hr]
 unfold signF at hr
 refine QdK.fin hk hko hne ?_
 refine Zc func210 rfl ntmps210 (congrArg Array.toList results210) (by simp) ?_
 simp only [go_sem]
 refine Za zs [0, 1] fun K hK => ?_
 try simp only [go_sem, seval]
 apply hK; clear hK K
 refine Zb fun K1 hK1 => ?_
 refine Za zs [0, 7, 8, 9] fun K hK => ?_
 try simp only [go_sem, seval, List.length_map]
 apply hK; clear hK K
 refine Zk ?_
 refine Zy (fun T' H' n' => ∃ i : Nat, i ≤ ws.length ∧ (∀ j, j < i → ¬ (s.nxt.kind = 4 ∧ s.nxt.text = ws.getD j [])) ∧ T' = tl [(0, .loc kr 0 0 0 []), (7, .sl 1 (ws.map .str)), (8, .int .i64 ws.length), (9, .int .i64 i)] ∧ H' = H ∧ n' = n) (fun T' _ _ => ws.length - iv (T' 9)) ?_ ?_
 ·skip
  exact ⟨0, by omega, fun j hj => absurd hj (Nat.not_lt_zero _), rfl, rfl, rfl⟩
 intro T1 H1 n1
 rintro ⟨i, hi, hno, rfl, rfl, rfl⟩
 refine Za zs [0, 7, 8, 9, 10] fun K hK => ?_
 try simp only [go_sem, seval, Int.toNat_natCast]
 apply hK; clear hK K
 refine Zb fun K2 hK2 => ?_
 refine Zf ?_ ?_ <;> intro hb
 ·skip
  have hlt : i < ws.length := by have := of_decide_eq_true hb; omega
  have hnth : nth (ws.map AV.str) i = AV.str (ws.getD i []) := ZG AV.str ws _ hlt
  have hx : IntKind.i64.wrap ((i : Int) + 1) = ((i + 1 : Nat) : Int) := w1 (by omega)
  refine Zd ?_
  try simp only [go_sem, seval, Int.toNat_natCast]
  apply hK2
  clear hK2 K2
  refine Zb fun K3 hK3 => ?_
  refine Zk ?_
  refine Za zs [0, 6, 7, 8, 9] fun K hK => ?_
  try simp only [go_sem, seval, hnth, List.length_map, Int.toNat_natCast]
  repeat refine peel ?_
  apply hK; clear hK K
  refine Za zs [0, 7, 8, 9, 27] fun K hK => ?_
  try simp only [go_sem, seval, hR1, wdAV, Int.toNat_natCast]
  repeat refine peel ?_
  apply hK; clear hK K
  refine Zf ?_ ?_ <;> intro hb
  ·skip
   have hb1 : s.nxt.kind = 4 ∧ s.nxt.text = ws.getD i [] := by have h9 := hb; simp at h9; exact ⟨by omega, by simpa using h9.2⟩
   rw [if_pos ⟨hb1.1, by rw [hb1.2]; simp [List.getD, hlt]⟩] at hr
   refine Za zs [4] fun K hK => ?_
   try simp only [go_sem, seval, Int.toNat_natCast]
   refine Zi (args' := [.loc kr 0 0 0 []]) func187 rfl rfl rfl (YI fs t s kr ko ver ht hf hl _ _ h) ?_ ?_
   rotate_left
   ·skip
    rintro q9 H' n' hc
    exact hc.up (fun p9 he => by rw [Yq he] at hr; exact hr) (Nat.le_refl _) (fun k _ _ _ => rfl)
   rintro rr H1 n1 hc
   obtain ⟨s2, v2, he, h2, rfl, hl2⟩ := hc.got hk hko hne
   obtain ⟨x, hx, hy⟩ := map_ok he
   cases hy
   rw [hx] at hr
   try simp only [go_sem, seval, wdAV]
   apply hK; clear hK K
   refine Ze ?_
   try simp only [go_sem, seval, Int.toNat_natCast]
   exact QdE.ok hr h2 hko (fun k e1 e2 e3 => hl2 k e2 e3) (.kl trivial)
  have hb1 : ¬ (s.nxt.kind = 4 ∧ s.nxt.text = ws.getD i []) := by rintro ⟨e1, e2⟩; rw [e1, e2] at hb; simp at hb
  refine Zd ?_
  try simp only [go_sem, seval, Int.toNat_natCast]
  apply hK3
  clear hK3 K3
  refine Zl zs [0, 7, 8, 9] fun K hK => ?_
  try simp only [go_sem, seval, hx, Int.toNat_natCast]
  apply hK; clear hK K
  try simp only [go_sem, seval, Int.toNat_natCast]
  exact ⟨⟨i + 1, by omega, fun j hj => by rcases Nat.lt_or_ge j i with q | q; exact hno j q; (obtain rfl : j = i := by omega); exact hb1, rfl⟩, by omega⟩
 have hge : i = ws.length := by have := of_decide_eq_false hb; omega
 refine Zz ?_
 try simp only [go_sem, seval, Int.toNat_natCast]
 apply hK1
 refine Za zs [] fun K hK => ?_
 try simp only [go_sem, seval, hR1, wdAV]
 refine Zi (args' := [.int .i64 s.nxt.pos]) func163 rfl rfl rfl (Yn s.nxt.pos _ _) ?_ ?_
 ·skip
  rintro rr H' n' ⟨rfl, rfl, h1⟩
  cases h1
 rintro q9 H' n' ⟨rfl, rfl, h1⟩
 cases h1
 have hno2 : ¬ (s.nxt.kind = 4 ∧ s.nxt.text ∈ ws) := by
   rintro ⟨e1, e2⟩
   obtain ⟨j, hj, he⟩ := List.mem_iff_getElem.1 e2
   exact hno j (by omega) ⟨e1, by simp [List.getD, hj, he]⟩
 rw [if_neg hno2] at hr
 exact QdE.err hr (Nat.le_refl _) (fun k _ _ _ => rfl)
def YT : Tst → AV
 | .or a b => .fn (.func 188) [] [.rp (YT a), .rp (YT b)]
 | .and a b => .fn (.func 199) [] [.rp (YT a), .rp (YT b)]
 | .not a => .fn (.func 204) [] [.rp (YT a)]
 | .fam n sign => .fn (.func 211) [] [.rp (.int .i64 n), .rp (.str sign)]
 | .cmp qual sign s => .fn (.func 213) [] [.rp (.bool qual), .rp (.str sign), .rp (bys s)]
 | .ts sign n => .fn (.func 216) [] [.rp (.str sign), .rp (.int .i64 n)]
theorem Y8 (n : Nat) : ∀ a : Tst, (YT a).kl n
 | .or a b => ⟨trivial, Y8 n a, Y8 n b, trivial⟩
 | .and a b => ⟨trivial, Y8 n a, Y8 n b, trivial⟩
 | .not a => ⟨trivial, Y8 n a, trivial⟩
 | .fam _ _ => ⟨trivial, trivial, trivial, trivial⟩
 | .cmp _ _ s => ⟨trivial, trivial, trivial, ZH _ _, trivial⟩
 | .ts _ _ => ⟨trivial, trivial, trivial, trivial⟩
theorem X4 {H : Heap} {n k e : Nat} {a b : AV} (hk : H k = some (.arr 0 e [a])) (hn : n ≤ k) (hf : Frz H n a b) : Frz H n (.loc k 0 0 0 []) (.rp b) := .loc hk hn (by simp) (by simp [AV.pathOff]) trivial hf
theorem callQ_mkQ {P : Program} {f : FuncId} {fn : Func} {first captured args args' : List AV} {H : Heap} {r : AV}
   (hf : P.funcs[f]? = some fn) (hb : fn.body.isSome = true) (hn : (fn.name == "runtime.NumGoroutine") = false) (ha : first ++ args ++ captured = args') (h : ∀ n, Ret P f args' H n r H n) : CallQ P (.fn (.func f) first captured) args H r :=
 fun n => Zg hf hb hn ha (h n) ⟨rfl, rfl, rfl⟩
set_option maxHeartbeats 1600000 in
theorem c_query_test (fs : List Fml) (hfs : fs.length ≤ 1048576) (t : List UInt8) (s : Qst) (kr ko ver : Nat) (ht : t.length ≤ 512) (hI : QI t s) (H : Heap) (n : Nat) (h : QdH fs t kr ko s ver H n) :
   Zx prog 205 [.loc kr 0 0 0 []] H n (QdK fs t kr ko H n ((testF fs t s).map fun x => (YT x.1, x.2))) := by
 have hR := h.r
 have hR1 := hR
 unfold qdO at hR1
 have hk := h.lr
 have hko := h.lo
 have hne := h.ne
 have hszs : (Zu fs).sz = 1 := rfl
 have hszb : ∀ b, (bys b).sz = 1 := fun _ => rfl
 have g1 : (kr = n) = False := by simp; omega
 have g2 : (kr = n + 1) = False := by simp; omega
 have g3 : (n = n + 1) = False := by simp
 have g4 : (n + 1 = n) = False := by simp
 have hB1 := hszs
 have hB2 := hszs
 obtain ⟨r, hr⟩ : ∃ r, r = ((testF fs t s).map fun x => (YT x.1, x.2)) := ⟨_, rfl⟩
 rw [← hr]
 unfold testF at hr
 refine QdK.fin hk hko hne ?_
 refine Zc func205 rfl ntmps205 (congrArg Array.toList results205) (by simp) ?_
 simp only [go_sem]
 refine Za zs [0] fun K hK => ?_
 try simp only [go_sem, seval]
 apply hK; clear hK K
 refine Zb fun K1 hK1 => ?_
 refine Zk ?_
 refine Za zs [0, 10] fun K hK => ?_
 try simp only [go_sem, seval]
 refine Zg func186 rfl rfl rfl ((Xq fs t s kr ko ver wFam _ _ hR)) ?_
 try simp only [go_sem, seval]
 apply hK; clear hK K
 refine Zf ?_ ?_ <;> intro hb
 ·skip
  simp only [if_pos hb] at hr
  refine Za zs [0] fun K hK => ?_
  try simp only [go_sem, seval]
  refine Zi (args' := [.loc kr 0 0 0 []]) func187 rfl rfl rfl (YI fs t s kr ko ver ht hI.far (hI.outs ht) _ _ ?_) ?_ ?_
  ·skip
   exact h
  rotate_left
  ·skip
   rintro q9 H' n' hc
   exact hc.up (fun p9 he => by rw [Yq he] at hr; exact hr) (by omega) (fun k e1 e2 e3 => by rfl)
  rintro rr H1 n9 hc
  obtain ⟨_, v1, he, h1, rfl, hl1⟩ := hc.got (by omega) (by omega) hne
  obtain ⟨x1, hx1, hy⟩ := map_ok he
  cases hy
  have hI1 := (YR ht hI (YY hb) (w := x1.1) (s' := x1.2) hx1).1.1
  simp only [hx1, Y7] at hr
  have hR1 := h1.r
  unfold qdO at hR1
  apply hK; clear hK K
  refine Za zs [0, 3] fun K hK => ?_
  try simp only [go_sem, seval]
  repeat refine peel ?_
  refine Zi (args' := [.loc kr 0 0 0 [], .sl 1 (sEq.map .str)]) func210 rfl rfl rfl (Ux fs t x1.2 kr ko v1 ht hI1.far (hI1.outs ht) sEq (by decide) _ _ ?_) ?_ ?_
  ·skip
   exact h1
  rotate_left
  ·skip
   rintro q9 H' n' hc
   exact hc.up (fun p9 he => by rw [Yq he] at hr; exact hr) (by omega) (fun k e1 e2 e3 => by exact hl1 k e2 e3)
  rintro rr H2 n9 hc
  obtain ⟨_, v2, he, h2, rfl, hl2⟩ := hc.got (by omega) (by omega) hne
  obtain ⟨x2, hx2, hy⟩ := map_ok he
  cases hy
  have hI2 := (V7 ht hI1 (w := x2.1) (s' := x2.2) hx2).1
  simp only [hx2, Y7] at hr
  have hR1 := h2.r
  unfold qdO at hR1
  try simp only [go_sem, seval]
  apply hK; clear hK K
  refine VS rfl zs [0, 3, 4] [.m, .q, .q, .q, .m, .q, .q, .q, .q, .c, .w [1, 2, 3, 5, 6, 7, 8, 9], .w []] [0, 1, 2, 3, 4, 5, 6, 7, 8, 9, 10, 11] [0, 1, 2, 3, 4, 5, 6, 7, 8, 9, 10, 11] (by kernel_rfl) (fun _ _ _ _ _ h => h) fun K hK => ?_
  try simp only [go_sem, seval, hR1, wdAV, g1, g2]
  refine ZL func104 rfl rfl rfl (fun _ n => (V5 fs x2.2.nxt.text hfs _ _)) ?_
  try simp only [go_sem, seval]
  repeat (first | refine peel ?_ | refine ⟨by exact fun d hd => by cases hd; exact callQ_mkQ func104 rfl rfl rfl (fun n => V5 fs _ hfs _ _), ?_⟩)
  apply hK; clear hK K
  refine Zb fun K2 hK2 => ?_
  refine Za zs [0, 3, 4, 37] fun K hK => ?_
  try simp only [go_sem, seval, hR1, wdAV, g1, g2]
  repeat refine peel ?_
  apply hK; clear hK K
  refine Zf ?_ ?_ <;> intro hb
  ·skip
   have hbad : x2.2.nxt.kind ≠ 1 ∨ famF fs x2.2.nxt.text < 0 := by
     unfold famF
     by_cases e : x2.2.nxt.kind = 1
     ·right; rw [e] at hb; exact of_decide_eq_true (by simpa using hb)
     ·exact .inl e
   rw [if_pos hbad, er_map] at hr
   refine Zl zs [0, 3, 4] fun K hK => ?_
   try simp only [go_sem, seval, hR1, wdAV, g1, g2]
   refine Zi (args' := [.int .i64 x2.2.nxt.pos]) func163 rfl rfl rfl (Yn x2.2.nxt.pos _ _) ?_ ?_
   ·skip
    rintro rr H' n' ⟨rfl, rfl, h1⟩
    cases h1
   rintro q9 H' n' ⟨rfl, rfl, h1⟩
   cases h1
   exact QdE.err hr (by omega) (fun k e1 e2 e3 => by simp only [Heap.put_get]; (repeat rw [if_neg (by omega)]); rw [hl2 k e2 e3, hl1 k e2 e3])
  have hok : ¬ (x2.2.nxt.kind ≠ 1 ∨ famF fs x2.2.nxt.text < 0) := by
    rintro (e | e)
    ·have e9 : ((x2.2.nxt.kind : Int) != 1) = true := by simp; omega
     rw [e9] at hb; cases hb
    ·unfold famF at e; rw [decide_eq_true e] at hb; cases e9 : ((x2.2.nxt.kind : Int) != 1) <;> rw [e9] at hb <;> cases hb
  rw [if_neg hok] at hr
  refine Zd ?_
  try simp only [go_sem, seval]
  apply hK2
  clear hK2 K2
  refine Za zs [3, 4] fun K hK => ?_
  try simp only [go_sem, seval]
  refine Zi (args' := [.loc kr 0 0 0 []]) func187 rfl rfl rfl (YI fs t x2.2 kr ko v2 ht hI2.far (hI2.outs ht) _ _ ?_) ?_ ?_
  ·skip
   exact h2.low (fun k hk9 => by (try simp only [Heap.put_get]); (repeat rw [if_neg (by omega)])) (by omega)
  rotate_left
  ·skip
   rintro q9 H' n' hc
   exact hc.up (fun p9 he => by rw [Yq he] at hr; exact hr) (by omega) (fun k e1 e2 e3 => by simp only [Heap.put_get]; (repeat rw [if_neg (by omega)]); rw [hl2 k e2 e3, hl1 k e2 e3])
  rintro rr H3 n9 hc
  obtain ⟨_, v3, he, h3, rfl, hl3⟩ := hc.got (by omega) (by omega) hne
  obtain ⟨x3, hx3, hy⟩ := map_ok he
  cases hy
  have hI3 := (YR ht hI2 (by omega) (w := x3.1) (s' := x3.2) hx3).1.1
  simp only [hx3, QO] at hr
  have hR1 := h3.r
  unfold qdO at hR1
  have hB1 : H3 n = some (.arr 0 1 [.str x2.1]) := (hl3 _ (by omega) (by omega)).trans (by simp only [Heap.put_get]; (repeat rw [if_neg (by omega)]); simp)
  have hB2 : H3 (n + 1) = some (.arr 0 1 [.int .i64 (famF fs x2.2.nxt.text)]) := (hl3 _ (by omega) (by omega)).trans (by simp only [Heap.put_get]; (repeat rw [if_neg (by omega)]); simp <;> rfl)
  apply hK; clear hK K
  refine Za zs [2] fun K hK => ?_
  try simp only [go_sem, seval]
  apply hK; clear hK K
  refine Ze ?_
  try simp only [go_sem, seval]
  exact QdE.ok hr h3 hko (fun k e1 e2 e3 => (hl3 k e2 e3).trans (by simp only [Heap.put_get]; (repeat rw [if_neg (by omega)]); rw [hl2 k e2 e3, hl1 k e2 e3])) (.fn .nil (.cons (X4 hB2 (by omega) (.kl trivial)) (.cons (X4 hB1 (by omega) (.kl trivial)) .nil)))
 rw [if_neg (by rw [hb]; simp)] at hr
 refine YB [0, 47] (fun T' H' n' => T' = tl [(0, .loc kr 0 0 0 []), (47, .bool (isF s Q3 || isF s QJ))] ∧ H = H' ∧ n = n') ?_ ?_
 ·skip
  refine Za zs [0, 47] fun K hK => ?_
  try simp only [go_sem, seval]
  refine Zg func186 rfl rfl rfl ((Xq fs t s kr ko ver Q3 _ _ hR)) ?_
  try simp only [go_sem, seval]
  apply hK; clear hK K
  refine Zf ?_ ?_ <;> intro hb
  ·skip
   try (have hq : isF s Q3 = true ∨ isF s QJ = true := by simpa using hb)
   try rw [if_pos hq] at hr
   refine Zd ?_
   try simp only [go_sem, seval]
   rw [hb]; first | rfl | (cases isF s Q3 <;> cases isF s QJ <;> first | rfl | contradiction)
  try rw [if_neg (by simpa using hb)] at hr
  refine Zl zs [0, 47] fun K hK => ?_
  try simp only [go_sem, seval]
  refine Zg func186 rfl rfl rfl ((Xq fs t s kr ko ver QJ _ _ hR)) ?_
  try simp only [go_sem, seval]
  apply hK; clear hK K
  try simp only [go_sem, seval]
  rw [hb]; first | rfl | (cases isF s Q3 <;> cases isF s QJ <;> first | rfl | contradiction)
 rintro T1 H1 n1 ⟨rfl, rfl, rfl⟩
 refine Zf ?_ ?_ <;> intro hb
 ·skip
  try (have hq : isF s Q3 = true ∨ isF s QJ = true := by simpa using hb)
  try rw [if_pos hq] at hr
  refine Za zs [0, 5] fun K hK => ?_
  try simp only [go_sem, seval]
  refine Zi (args' := [.loc kr 0 0 0 []]) func187 rfl rfl rfl (YI fs t s kr ko ver ht hI.far (hI.outs ht) _ _ ?_) ?_ ?_
  ·skip
   exact h
  rotate_left
  ·skip
   rintro q9 H' n' hc
   exact hc.up (fun p9 he => by rw [Yq he] at hr; exact hr) (by omega) (fun k e1 e2 e3 => by rfl)
  rintro rr H1 n9 hc
  obtain ⟨_, v1, he, h1, rfl, hl1⟩ := hc.got (by omega) (by omega) hne
  obtain ⟨x1, hx1, hy⟩ := map_ok he
  cases hy
  have hI1 := (YR ht hI (by rcases hq with e | e <;> exact YY e) (w := x1.1) (s' := x1.2) hx1).1.1
  simp only [hx1, Y7] at hr
  have hR1 := h1.r
  unfold qdO at hR1
  try simp only [go_sem, seval, wdAV]
  apply hK; clear hK K
  refine Za zs [0, 5, 6] fun K hK => ?_
  try simp only [go_sem, seval]
  repeat refine peel ?_
  refine Zi (args' := [.loc kr 0 0 0 [], .sl 1 (sAll.map .str)]) func210 rfl rfl rfl (Ux fs t x1.2 kr ko v1 ht hI1.far (hI1.outs ht) sAll (by decide) _ _ ?_) ?_ ?_
  ·skip
   exact h1.low (fun k hk9 => by (try simp only [Heap.put_get]); (repeat rw [if_neg (by omega)])) (by omega)
  rotate_left
  ·skip
   rintro q9 H' n' hc
   exact hc.up (fun p9 he => by rw [Yq he] at hr; exact hr) (by omega) (fun k e1 e2 e3 => by rw [Heap.put_ne _ _ (by omega)]; exact hl1 k e2 e3)
  rintro rr H2 n9 hc
  obtain ⟨_, v2, he, h2, rfl, hl2⟩ := hc.got (by omega) (by omega) hne
  obtain ⟨x2, hx2, hy⟩ := map_ok he
  cases hy
  have hI2 := (V7 ht hI1 (w := x2.1) (s' := x2.2) hx2).1
  simp only [hx2, Y7] at hr
  have hR1 := h2.r
  unfold qdO at hR1
  have hB1 : H2 n = some (.arr 0 1 [.bool (x1.1.text == Q3)]) := (hl2 _ (by omega) (by omega)).trans (by simp only [Heap.put_get]; (repeat rw [if_neg (by omega)]); simp <;> rfl)
  try simp only [go_sem, seval]
  apply hK; clear hK K
  refine Za zs [5, 6, 7] fun K hK => ?_
  try simp only [go_sem, seval]
  refine Zi (args' := [.loc kr 0 0 0 [], .int .i64 ((3 : Nat) : Int)]) func212 rfl rfl rfl (Jq fs t x2.2 kr ko v2 ht hI2.far (hI2.outs ht) 3 _ _ ?_) ?_ ?_
  ·skip
   exact h2.low (fun k hk9 => by (try simp only [Heap.put_get]); (repeat rw [if_neg (by omega)])) (by omega)
  rotate_left
  ·skip
   rintro q9 H' n' hc
   exact hc.up (fun p9 he => by rw [Yq he] at hr; exact hr) (by omega) (fun k e1 e2 e3 => by rw [Heap.put_ne _ _ (by omega), hl2 k e2 e3, Heap.put_ne _ _ (by omega)]; exact hl1 k e2 e3)
  rintro rr H3 n9 hc
  obtain ⟨_, v3, he, h3, rfl, hl3⟩ := hc.got (by omega) (by omega) hne
  obtain ⟨x3, hx3, hy⟩ := map_ok he
  cases hy
  have hI3 := (QZ ht (by decide) hI2 (w := x3.1) (s' := x3.2) hx3).1
  simp only [hx3, QO] at hr
  have hR1 := h3.r
  unfold qdO at hR1
  have hB2 : H3 (n + 1) = some (.arr 0 1 [.str x2.1]) := (hl3 _ (by omega) (by omega)).trans (by simp only [Heap.put_get]; (repeat rw [if_neg (by omega)]); simp)
  have hB1 := (hl3 n (by omega) (by omega)).trans ((Heap.put_ne _ _ (by omega)).trans hB1)
  try simp only [go_sem, seval, wdAV]
  apply hK; clear hK K
  refine Za zs [2] fun K hK => ?_
  try simp only [go_sem, seval]
  apply hK; clear hK K
  refine Ze ?_
  try simp only [go_sem, seval]
  exact QdE.ok hr (h3.on (Heap.put_ne _ _ (by omega)) (Heap.put_ne _ _ (by omega)) (Nat.le_refl _)) hko (fun k e1 e2 e3 => by rw [Heap.put_ne _ _ (by omega), hl3 k e2 e3, Heap.put_ne _ _ (by omega), hl2 k e2 e3, Heap.put_ne _ _ (by omega)]; exact hl1 k e2 e3) (.fn .nil (.cons (X4 ((Heap.put_ne _ _ (by omega)).trans hB1) (by omega) (.kl trivial)) (.cons (X4 ((Heap.put_ne _ _ (by omega)).trans hB2) (by omega) (.kl trivial)) (.cons (X4 (Heap.put_same _ _ _) (by omega) (.kl (ZH _ _))) .nil))))
 try rw [if_neg (by simpa using hb)] at hr
 refine Za zs [0, 63] fun K hK => ?_
 try simp only [go_sem, seval]
 refine Zg func186 rfl rfl rfl ((Xq fs t s kr ko ver wTs _ _ hR)) ?_
 try simp only [go_sem, seval]
 apply hK; clear hK K
 refine Zf ?_ ?_ <;> intro hb
 ·skip
  rw [if_pos hb] at hr
  refine Za zs [0] fun K hK => ?_
  try simp only [go_sem, seval]
  refine Zi (args' := [.loc kr 0 0 0 []]) func187 rfl rfl rfl (YI fs t s kr ko ver ht hI.far (hI.outs ht) _ _ ?_) ?_ ?_
  ·skip
   exact h
  rotate_left
  ·skip
   rintro q9 H' n' hc
   exact hc.up (fun p9 he => by rw [Yq he] at hr; exact hr) (by omega) (fun k e1 e2 e3 => by rfl)
  rintro rr H1 n9 hc
  obtain ⟨_, v1, he, h1, rfl, hl1⟩ := hc.got (by omega) (by omega) hne
  obtain ⟨x1, hx1, hy⟩ := map_ok he
  cases hy
  have hI1 := (YR ht hI (YY hb) (w := x1.1) (s' := x1.2) hx1).1.1
  simp only [hx1, Y7] at hr
  have hR1 := h1.r
  unfold qdO at hR1
  apply hK; clear hK K
  refine Za zs [0, 8] fun K hK => ?_
  try simp only [go_sem, seval]
  repeat refine peel ?_
  refine Zi (args' := [.loc kr 0 0 0 [], .sl 1 (sCmp.map .str)]) func210 rfl rfl rfl (Ux fs t x1.2 kr ko v1 ht hI1.far (hI1.outs ht) sCmp (by decide) _ _ ?_) ?_ ?_
  ·skip
   exact h1
  rotate_left
  ·skip
   rintro q9 H' n' hc
   exact hc.up (fun p9 he => by rw [Yq he] at hr; exact hr) (by omega) (fun k e1 e2 e3 => by exact hl1 k e2 e3)
  rintro rr H2 n9 hc
  obtain ⟨_, v2, he, h2, rfl, hl2⟩ := hc.got (by omega) (by omega) hne
  obtain ⟨x2, hx2, hy⟩ := map_ok he
  cases hy
  have hI2 := (V7 ht hI1 (w := x2.1) (s' := x2.2) hx2).1
  simp only [hx2, Y7] at hr
  have hR1 := h2.r
  unfold qdO at hR1
  try simp only [go_sem, seval]
  apply hK; clear hK K
  refine Za zs [8, 9] fun K hK => ?_
  try simp only [go_sem, seval]
  refine Zi (args' := [.loc kr 0 0 0 [], .int .i64 ((2 : Nat) : Int)]) func212 rfl rfl rfl (Jq fs t x2.2 kr ko v2 ht hI2.far (hI2.outs ht) 2 _ _ ?_) ?_ ?_
  ·skip
   exact h2.low (fun k hk9 => by (try simp only [Heap.put_get]); (repeat rw [if_neg (by omega)])) (by omega)
  rotate_left
  ·skip
   rintro q9 H' n' hc
   exact hc.up (fun p9 he => by rw [Yq he] at hr; exact hr) (by omega) (fun k e1 e2 e3 => by rw [Heap.put_ne _ _ (by omega), hl2 k e2 e3]; exact hl1 k e2 e3)
  rintro rr H3 n9 hc
  obtain ⟨_, v3, he, h3, rfl, hl3⟩ := hc.got (by omega) (by omega) hne
  obtain ⟨x3, hx3, hy⟩ := map_ok he
  cases hy
  have hI3 := (QZ ht (by decide) hI2 (w := x3.1) (s' := x3.2) hx3).1
  simp only [hx3, QO] at hr
  have hR1 := h3.r
  unfold qdO at hR1
  have hB1 : H3 n = some (.arr 0 1 [.str x2.1]) := (hl3 _ (by omega) (by omega)).trans (by simp only [Heap.put_get]; (repeat rw [if_neg (by omega)]); simp)
  try simp only [go_sem, seval, wdAV]
  apply hK; clear hK K
  refine Za zs [2] fun K hK => ?_
  try simp only [go_sem, seval]
  apply hK; clear hK K
  refine Ze ?_
  try simp only [go_sem, seval]
  exact QdE.ok hr (h3.on (Heap.put_ne _ _ (by omega)) (Heap.put_ne _ _ (by omega)) (Nat.le_refl _)) hko (fun k e1 e2 e3 => by rw [Heap.put_ne _ _ (by omega), hl3 k e2 e3, Heap.put_ne _ _ (by omega), hl2 k e2 e3]; exact hl1 k e2 e3) (.fn .nil (.cons (X4 ((Heap.put_ne _ _ (by omega)).trans hB1) (by omega) (.kl trivial)) (.cons (X4 (Heap.put_same _ _ _) (by omega) (.kl trivial)) .nil)))
 rw [if_neg (by rw [hb]; simp), er_map] at hr
 refine Zd ?_
 try simp only [go_sem, seval]
 apply hK1
 clear hK1 K1
 refine Za zs [] fun K hK => ?_
 try simp only [go_sem, seval, hR1, wdAV]
 refine Zi (args' := [.int .i64 s.nxt.pos]) func163 rfl rfl rfl (Yn s.nxt.pos _ _) ?_ ?_
 ·skip
  rintro rr H' n' ⟨rfl, rfl, h1⟩
  cases h1
 rintro q9 H' n' ⟨rfl, rfl, h1⟩
 cases h1
 exact QdE.err hr (by omega) (fun k e1 e2 e3 => by rfl)
theorem Xj (a : Tst) : (YT a).sz = 1 := by cases a <;> rfl
theorem Xu (a : Tst) : (YT a).memOK = true := by cases a <;> rfl
theorem Wx (a : Tst) : (YT a).isAgg = false := by cases a <;> rfl
theorem YC (g : Bool) (a : Tst) : strip g (YT a) = YT a := by cases a <;> cases g <;> rfl
section
variable (fs : List Fml) (t : List UInt8) (kr ko : Nat)
def CondK (f : Nat) : Prop := ∀ (s : Qst) (ver : Nat) (H : Heap) (n : Nat), QI t s → 4 * s.m t + 3 ≤ f → QdH fs t kr ko s ver H n →
 Zx prog 162 [.loc kr 0 0 0 []] H n (QdK fs t kr ko H n ((condF fs t f s).map fun x => (YT x.1, x.2)))
def TermK (f : Nat) : Prop := ∀ (s : Qst) (ver : Nat) (H : Heap) (n : Nat), QI t s → 4 * s.m t + 2 ≤ f → QdH fs t kr ko s ver H n →
 Zx prog 185 [.loc kr 0 0 0 []] H n (QdK fs t kr ko H n ((termF fs t f s).map fun x => (YT x.1, x.2)))
def FactK (f : Nat) : Prop := ∀ (s : Qst) (ver : Nat) (H : Heap) (n : Nat), QI t s → 4 * s.m t + 1 ≤ f → QdH fs t kr ko s ver H n →
 Zx prog 198 [.loc kr 0 0 0 []] H n (QdK fs t kr ko H n ((Jm fs t f s).map fun x => (YT x.1, x.2)))
end
set_option maxHeartbeats 1600000 in
theorem c_query_fact {fs : List Fml} (hfs : fs.length ≤ 1048576) {t : List UInt8} (ht : t.length ≤ 512) {kr ko : Nat} {f : Nat} (hF : FactK fs t kr ko f) (hC : CondK fs t kr ko f) : FactK fs t kr ko (f + 1) := fun s ver H n hI hm h => by
 have hR := h.r
 have hR1 := hR
 unfold qdO at hR1
 have hk := h.lr
 have hko := h.lo
 have hne := h.ne
 have hszs : (Zu fs).sz = 1 := rfl
 have hszb : ∀ b, (bys b).sz = 1 := fun _ => rfl
 have g1 : (kr = n) = False := by simp; omega
 have g2 : (n = kr) = False := by simp; omega
 have hx := hszs
 obtain ⟨r, hr⟩ : ∃ r, r = ((Jm fs t (f + 1) s).map fun x => (YT x.1, x.2)) := ⟨_, rfl⟩
 rw [← hr]
 simp only [Jm] at hr
 refine QdK.fin hk hko hne ?_
 refine Zc func198 rfl ntmps198 (congrArg Array.toList results198) (by simp) ?_
 simp only [go_sem]
 refine Za zs [0] fun K hK => ?_
 try simp only [go_sem, seval]
 apply hK; clear hK K
 refine Zb fun K1 hK1 => ?_
 refine Zk ?_
 refine Za zs [0, 5] fun K hK => ?_
 try simp only [go_sem, seval]
 refine Zg func186 rfl rfl rfl ((Xq fs t s kr ko ver wNot _ _ hR)) ?_
 try simp only [go_sem, seval]
 apply hK; clear hK K
 refine Zf ?_ ?_ <;> intro hb
 ·skip
  simp only [if_pos hb] at hr
  refine Za zs [0] fun K hK => ?_
  try simp only [go_sem, seval]
  refine Zi (args' := [.loc kr 0 0 0 []]) func203 rfl rfl rfl (Jt fs t s kr ko ver ht hI.far (hI.outs ht) (by have := hI.deep; omega) _ _ h) ?_ ?_
  rotate_left
  ·skip
   rintro q9 H' n' hc
   exact hc.up (fun p9 he => by rw [Yq he] at hr; exact hr) (Nat.le_refl _) (fun k _ _ _ => rfl)
  rintro rr H1 n9 hc
  obtain ⟨x1, v1, he, h1, rfl, hl1⟩ := hc.got hk hko hne
  obtain ⟨_, hx1, hy⟩ := map_ok he
  cases hy
  obtain ⟨hI1, hm1, hd1⟩ := Je ht hI (YY hb) hx1
  simp only [hx1, Y7] at hr
  apply hK; clear hK K
  refine Za zs [0, 3] fun K hK => ?_
  try simp only [go_sem, seval]
  refine Zi (args' := [.loc kr 0 0 0 []]) func198 rfl rfl rfl (hF x1 v1 _ _ hI1 (by omega) h1) ?_ ?_
  rotate_left
  ·skip
   rintro q9 H' n' hc
   exact hc.up (fun p9 he => by rw [Yq he] at hr; exact hr) (Nat.le_refl _) (fun k _ e2 e3 => hl1 k e2 e3)
  rintro rr H2 n9 hc
  obtain ⟨_, v2, he, h2, rfl, hl2⟩ := hc.got hk hko hne
  obtain ⟨x2, hx2, hy⟩ := map_ok he
  cases hy
  have hg2 := (WZ ht f).2.2.2.2 x1 x2.1 x2.2 hI1 hx2
  simp only [hx2, QO] at hr
  have hR1 := h2.r
  unfold qdO at hR1
  have hx : IntKind.i64.wrap ((x2.2.deep : Int) - 1) = ((x2.2.deep - 1 : Nat) : Int) := by have e1 := hg2.2.2; have e2 := hI.deep; rw [w64 (by omega) (by omega)]; omega
  try simp only [go_sem, seval, Xj, Xu]
  apply hK; clear hK K
  refine Za zs [3] fun K hK => ?_
  try simp only [go_sem, seval, hR1, wdAV, g1, hx]
  apply hK; clear hK K
  refine Za zs [2] fun K hK => ?_
  try simp only [go_sem, seval]
  apply hK; clear hK K
  refine Ze ?_
  try simp only [go_sem, seval]
  exact QdE.ok (s := { x2.2 with deep := x2.2.deep - 1 }) hr ⟨hk, hko, hne, Heap.put_same _ _ _, by rw [Heap.put_ne _ _ hne.symm, Heap.put_ne _ _ (by omega)]; exact h2.o⟩ hko (fun k e1 e2 e3 => by rw [Heap.put_ne _ _ e2, Heap.put_ne _ _ (by omega), hl2 k e2 e3]; exact hl1 k e2 e3) (.fn .nil (.cons (X4 ((Heap.put_ne _ _ (by omega)).trans (Heap.put_same _ _ _)) (by omega) (.kl (Y8 _ _))) .nil))
 rw [if_neg (by rw [hb]; simp)] at hr
 refine Za zs [0, 20] fun K hK => ?_
 try simp only [go_sem, seval]
 refine Zg func186 rfl rfl rfl ((Xq fs t s kr ko ver [40] _ _ hR)) ?_
 try simp only [go_sem, seval]
 apply hK; clear hK K
 refine Zf ?_ ?_ <;> intro hb
 ·skip
  simp only [if_pos hb] at hr
  refine Za zs [0] fun K hK => ?_
  try simp only [go_sem, seval]
  refine Zi (args' := [.loc kr 0 0 0 []]) func203 rfl rfl rfl (Jt fs t s kr ko ver ht hI.far (hI.outs ht) (by have := hI.deep; omega) _ _ h) ?_ ?_
  rotate_left
  ·skip
   rintro q9 H' n' hc
   exact hc.up (fun p9 he => by rw [Yq he] at hr; exact hr) (Nat.le_refl _) (fun k _ _ _ => rfl)
  rintro rr H1 n9 hc
  obtain ⟨x1, v1, he, h1, rfl, hl1⟩ := hc.got hk hko hne
  obtain ⟨_, hx1, hy⟩ := map_ok he
  cases hy
  obtain ⟨hI1, hm1, hd1⟩ := Je ht hI (YY hb) hx1
  simp only [hx1, Y7] at hr
  apply hK; clear hK K
  refine Za zs [0, 4] fun K hK => ?_
  try simp only [go_sem, seval]
  refine Zi (args' := [.loc kr 0 0 0 []]) func162 rfl rfl rfl (hC x1 v1 _ _ hI1 (by omega) h1) ?_ ?_
  rotate_left
  ·skip
   rintro q9 H' n' hc
   exact hc.up (fun p9 he => by rw [Yq he] at hr; exact hr) (Nat.le_refl _) (fun k _ e2 e3 => hl1 k e2 e3)
  rintro rr H2 n9 hc
  obtain ⟨_, v2, he, h2, rfl, hl2⟩ := hc.got hk hko hne
  obtain ⟨x2, hx2, hy⟩ := map_ok he
  cases hy
  have hg2 := (WZ ht f).1 x1 x2.1 x2.2 hI1 hx2
  simp only [hx2, Y7] at hr
  have hR1 := h2.r
  unfold qdO at hR1
  have hx : IntKind.i64.wrap ((x2.2.deep : Int) - 1) = ((x2.2.deep - 1 : Nat) : Int) := by have e1 := hg2.2.2; have e2 := hI.deep; rw [w64 (by omega) (by omega)]; omega
  try simp only [go_sem, seval, YC]
  apply hK; clear hK K
  refine Za zs [0, 4] fun K hK => ?_
  try simp only [go_sem, seval, hR1, wdAV, hx]
  apply hK; clear hK K
  refine Zb fun K2 hK2 => ?_
  refine Za zs [0, 4, 36] fun K hK => ?_
  try simp only [go_sem, seval]
  refine Zg func186 rfl rfl rfl ((Xq fs t { x2.2 with deep := x2.2.deep - 1 } kr ko v2 [41] _ _ (Heap.put_same _ _ _))) ?_
  try simp only [go_sem, seval]
  apply hK; clear hK K
  refine Zf ?_ ?_ <;> intro hb
  ·skip
   have hb1 : isF { x2.2 with deep := x2.2.deep - 1 } [41] = false := by simpa using hb
   rw [if_neg (by show ¬ isF { x2.2 with deep := x2.2.deep - 1 } [41] = true; rw [hb1]; simp), er_map] at hr
   refine Zl zs [0, 4] fun K hK => ?_
   try simp only [go_sem, seval]
   refine Zi (args' := [.int .i64 x2.2.nxt.pos]) func163 rfl rfl rfl (Yn x2.2.nxt.pos _ _) ?_ ?_
   ·skip
    rintro rr H' n' ⟨rfl, rfl, hz⟩
    cases hz
   rintro q9 H' n' ⟨rfl, rfl, hz⟩
   cases hz
   exact QdE.err hr (Nat.le_refl _) (fun k e1 e2 e3 => by rw [Heap.put_ne _ _ e2, hl2 k e2 e3]; exact hl1 k e2 e3)
  have hb1 : isF { x2.2 with deep := x2.2.deep - 1 } [41] = true := by simpa using hb
  rw [if_pos (show isF x2.2 [41] = true from hb1)] at hr
  refine Zd ?_
  try simp only [go_sem, seval]
  apply hK2
  clear hK2 K2
  refine Za zs [4] fun K hK => ?_
  try simp only [go_sem, seval]
  refine Zi (args' := [.loc kr 0 0 0 []]) func187 rfl rfl rfl (YI fs t { x2.2 with deep := x2.2.deep - 1 } kr ko v2 ht hg2.1.far (hg2.1.outs ht) _ _ ?_) ?_ ?_
  ·skip
   exact ⟨hk, hko, hne, Heap.put_same _ _ _, by rw [Heap.put_ne _ _ hne.symm]; exact h2.o⟩
  rotate_left
  ·skip
   rintro q9 H' n' hc
   exact hc.up (fun p9 he => by rw [Yq he] at hr; exact hr) (Nat.le_refl _) (fun k e1 e2 e3 => by rw [Heap.put_ne _ _ e2, hl2 k e2 e3]; exact hl1 k e2 e3)
  rintro rr H3 n9 hc
  obtain ⟨_, v3, he, h3, rfl, hl3⟩ := hc.got hk hko hne
  obtain ⟨x3, hx3, hy⟩ := map_ok he
  cases hy
  simp only [hx3, QO] at hr
  apply hK; clear hK K
  refine Za zs [2] fun K hK => ?_
  try simp only [go_sem, seval, YC]
  apply hK; clear hK K
  refine Ze ?_
  try simp only [go_sem, seval]
  exact QdE.ok hr h3 hko (fun k e1 e2 e3 => by rw [hl3 k e2 e3, Heap.put_ne _ _ e2, hl2 k e2 e3]; exact hl1 k e2 e3) (.kl (Y8 _ _))
 rw [if_neg (by rw [hb]; simp)] at hr
 refine Zd ?_
 try simp only [go_sem, seval]
 apply hK1
 clear hK1 K1
 refine Za zs [2] fun K hK => ?_
 try simp only [go_sem, seval]
 refine Zi (args' := [.loc kr 0 0 0 []]) func205 rfl rfl rfl (c_query_test fs hfs t s kr ko ver ht hI _ _ h) ?_ ?_
 rotate_left
 ·skip
  rintro q9 H' n' hc
  exact hc.up (fun p9 he => by rw [he] at hr; exact hr) (Nat.le_refl _) (fun k _ _ _ => rfl)
 rintro rr H1 n9 hc
 obtain ⟨s4, v1, he, h1, rfl, hl1⟩ := hc.got hk hko hne
 rw [he] at hr
 obtain ⟨x4, hx4, hy⟩ := map_ok he
 cases hy
 try simp only [go_sem, seval, YC]
 apply hK; clear hK K
 refine Ze ?_
 try simp only [go_sem, seval]
 exact QdE.ok hr h1 hko (fun k e1 e2 e3 => hl1 k e2 e3) (.kl (Y8 _ _))
set_option maxHeartbeats 1600000 in
theorem c_query_term {fs : List Fml} {t : List UInt8} (ht : t.length ≤ 512) {kr ko : Nat} : ∀ {f : Nat}, (∀ g, g < f → FactK fs t kr ko g) → TermK fs t kr ko f := fun {f} hF s ver H n hI hm h => by
 obtain ⟨f, rfl⟩ : ∃ q, f = q + 1 := ⟨f - 1, by omega⟩
 have hR := h.r
 have hR1 := hR
 unfold qdO at hR1
 have hk := h.lr
 have hko := h.lo
 have hne := h.ne
 have hszs : (Zu fs).sz = 1 := rfl
 have hszb : ∀ b, (bys b).sz = 1 := fun _ => rfl
 have hav1 := hszs
 have hav2 := hszs
 have hav3 := hszs
 have hav4 := hszs
 obtain ⟨r, hr⟩ : ∃ r, r = ((termF fs t (f + 1) s).map fun x => (YT x.1, x.2)) := ⟨_, rfl⟩
 rw [← hr]
 simp only [termF] at hr
 refine QdK.fin hk hko hne ?_
 refine Zc func185 rfl ntmps185 (congrArg Array.toList results185) (by simp) ?_
 simp only [go_sem]
 refine Za zs [0] fun K hK => ?_
 try simp only [go_sem, seval]
 apply hK; clear hK K
 refine Za zs [0, 3] fun K hK => ?_
 try simp only [go_sem, seval]
 refine Zi (args' := [.loc kr 0 0 0 []]) func198 rfl rfl rfl (hF f (by omega) s ver _ _ hI (by omega) h) ?_ ?_
 rotate_left
 ·skip
  rintro q9 H' n' hc
  exact hc.up (fun p9 he => by rw [Yq he] at hr; exact hr) (Nat.le_refl _) (fun k _ _ _ => rfl)
 rintro rr H1 n9 hc
 obtain ⟨_, v1, he, h1, rfl, hl1⟩ := hc.got hk hko hne
 obtain ⟨x1, hx1, hy⟩ := map_ok he
 cases hy
 have hg1 := (WZ ht f).2.2.2.2 s x1.1 x1.2 hI hx1
 have hm1 := hg1.2.1
 simp only [hx1, Y7] at hr
 try simp only [go_sem, seval, YC]
 apply hK; clear hK K
 refine Zb fun K1 hK1 => ?_
 refine Zk ?_
 refine Zy (fun T' H' n' => ∃ (g : Nat) (b : Tst) (s1 : Qst) (v1 : Nat) (av : AV) (j : Nat), r = (andsF fs t g b s1).map (fun x => (YT x.1, x.2)) ∧ 4 * s1.m t + 1 ≤ g ∧ g ≤ f ∧ QI t s1 ∧ T' = tl [(0, .loc kr 0 0 0 []), (3, av)] ∧ QdH fs t kr ko s1 v1 H' n' ∧ (∀ H2 : Heap, (∀ k, n ≤ k → k < n' → H2 k = H' k) → Frz H2 n av (YT b)) ∧ (av.sz = 1 ∧ av.memOK = true ∧ av.isAgg = false ∧ ∀ g, strip g av = av) ∧ (∀ k, k < n → k ≠ kr → k ≠ ko → H' k = H k) ∧ n' = n + 2 * j ∧ j + s1.m t ≤ s.m t) (fun _ _ n' => 2 * s.m t + n + 2 - n') ?_ ?_
 ·skip
  exact ⟨f, x1.1, x1.2, v1, YT x1.1, 0, hr, by omega, by omega, hg1.1, rfl, h1, fun _ _ => .kl (Y8 _ _), ⟨Xj _, Xu _, Wx _, fun g => YC g _⟩, fun k e1 e2 e3 => hl1 k e2 e3, rfl, by omega⟩
 intro T1 H1 n1
 rintro ⟨g, b, s1, v1, av, j, hr, hmg, hgf, hI1, rfl, hQ, hfz, ⟨hav1, hav2, hav3, hav4⟩, hlow, rfl, hj⟩
 obtain ⟨g, rfl⟩ : ∃ q, g = q + 1 := ⟨g - 1, by omega⟩
 simp only [andsF] at hr
 have g1 : (n + 2 * j = n + 2 * j + 1) = False := by simp
 have g2 : (n + 2 * j + 1 = n + 2 * j) = False := by simp
 refine Zb fun K2 hK2 => ?_
 refine Za zs [0, 3, 9] fun K hK => ?_
 try simp only [go_sem, seval]
 refine Zg func186 rfl rfl rfl ((Xq fs t s1 kr ko v1 wAnd _ _ hQ.r)) ?_
 apply hK; clear hK K
 refine Zf ?_ ?_ <;> intro hb
 ·skip
  rw [if_pos hb] at hr
  refine Zd ?_
  try simp only [go_sem, seval]
  apply hK2
  clear hK2 K2
  refine Zk ?_
  refine Za zs [0, 3] fun K hK => ?_
  try simp only [go_sem, seval]
  refine Zi (args' := [.loc kr 0 0 0 []]) func187 rfl rfl rfl (YI fs t s1 kr ko v1 ht hI1.far (hI1.outs ht) _ _ hQ) ?_ ?_
  rotate_left
  ·skip
   rintro q9 H' n' hc
   exact hc.up (fun p9 he => by rw [Yq he] at hr; exact hr) (by omega) hlow
  rintro rr H2 n9 hc
  obtain ⟨_, v2, he, h2, rfl, hl2⟩ := hc.got (by omega) (by omega) hne
  obtain ⟨x2, hx2, hy⟩ := map_ok he
  cases hy
  have ht2 := YR ht hI1 (YY hb) (w := x2.1) (s' := x2.2) hx2
  have hI2 := ht2.1.1
  have hm2 := ht2.2.1
  simp only [hx2, Y7] at hr
  apply hK; clear hK K
  refine Za zs [0, 4, 5] fun K hK => ?_
  try simp only [go_sem, seval, hav1, hav2, hav4]
  refine Zi (args' := [.loc kr 0 0 0 []]) func198 rfl rfl rfl (hF g (by omega) x2.2 v2 _ _ hI2 (by omega) h2) ?_ ?_
  rotate_left
  ·skip
   rintro q9 H' n' hc
   exact hc.up (fun p9 he => by rw [Yq he] at hr; exact hr) (by omega) (fun k e1 e2 e3 => (hl2 k e2 e3).trans (hlow k e1 e2 e3))
  rintro rr H3 n9 hc
  obtain ⟨_, v3, he, h3, rfl, hl3⟩ := hc.got (by omega) (by omega) hne
  obtain ⟨x3, hx3, hy⟩ := map_ok he
  cases hy
  have hg3 := (WZ ht g).2.2.2.2 x2.2 x3.1 x3.2 hI2 hx3
  have hm3 := hg3.2.1
  simp only [hx3, Y7] at hr
  try simp only [go_sem, seval, Xj, Xu]
  apply hK; clear hK K
  refine Zl zs [0, 3] fun K hK => ?_
  try simp only [go_sem, seval]
  apply hK; clear hK K
  try simp only [go_sem, seval]
  refine ⟨⟨g, .and b x3.1, x3.2, v3, _, j + 1, hr, by omega, by omega, hg3.1, rfl, ?_, ?_, ⟨rfl, rfl, rfl, fun g => by cases g <;> rfl⟩, ?_, by omega, by omega⟩, by omega⟩
  ·exact h3.low (fun k hk9 => by simp only [Heap.put_get]; (repeat rw [if_neg (by omega)])) (by omega)
  ·intro H4 hag
   have hb1 : H4 (n + 2 * j) = some (.arr 0 1 [av]) := (hag _ (by omega) (by omega)).trans (by (try simp only [Heap.put_get]); simp)
   have hb2 : H4 (n + 2 * j + 1) = some (.arr 0 1 [YT x3.1]) := (hag _ (by omega) (by omega)).trans (by (try simp only [Heap.put_get]); simp)
   exact .fn .nil (.cons (X4 hb1 (by omega) (hfz H4 fun k a1 a2 => (hag k a1 (by omega)).trans (by (try simp only [Heap.put_get]); (repeat rw [if_neg (by omega)]); rw [hl3 k (by omega) (by omega)]; exact hl2 k (by omega) (by omega)))) (.cons (X4 hb2 (by omega) (.kl (Y8 _ _))) .nil))
  ·intro k e1 e2 e3
   (repeat rw [if_neg (by omega)])
   rw [hl3 k e2 e3, hl2 k e2 e3]; exact hlow k e1 e2 e3
 rw [if_neg (by rw [hb]; simp), QO] at hr
 refine Zz ?_
 try simp only [go_sem, seval]
 apply hK1
 refine Za zs [2] fun K hK => ?_
 try simp only [go_sem, seval, hav4]
 apply hK; clear hK K
 refine Ze ?_
 try simp only [go_sem, seval]
 exact QdE.ok hr hQ hko hlow (hfz _ (fun _ _ _ => rfl))
set_option maxHeartbeats 1600000 in
theorem c_query_cond {fs : List Fml} {t : List UInt8} (ht : t.length ≤ 512) {kr ko : Nat} : ∀ {f : Nat}, (∀ g, g < f → TermK fs t kr ko g) → CondK fs t kr ko f := fun {f} hF s ver H n hI hm h => by
 obtain ⟨f, rfl⟩ : ∃ q, f = q + 1 := ⟨f - 1, by omega⟩
 have hR := h.r
 have hR1 := hR
 unfold qdO at hR1
 have hk := h.lr
 have hko := h.lo
 have hne := h.ne
 have hszs : (Zu fs).sz = 1 := rfl
 have hszb : ∀ b, (bys b).sz = 1 := fun _ => rfl
 have hav1 := hszs
 have hav2 := hszs
 have hav3 := hszs
 have hav4 := hszs
 obtain ⟨r, hr⟩ : ∃ r, r = ((condF fs t (f + 1) s).map fun x => (YT x.1, x.2)) := ⟨_, rfl⟩
 rw [← hr]
 simp only [condF] at hr
 refine QdK.fin hk hko hne ?_
 refine Zc func162 rfl ntmps162 (congrArg Array.toList results162) (by simp) ?_
 simp only [go_sem]
 refine Za zs [0] fun K hK => ?_
 try simp only [go_sem, seval]
 apply hK; clear hK K
 refine Za zs [0, 3] fun K hK => ?_
 try simp only [go_sem, seval]
 refine Zi (args' := [.loc kr 0 0 0 []]) func185 rfl rfl rfl (hF f (by omega) s ver _ _ hI (by omega) h) ?_ ?_
 rotate_left
 ·skip
  rintro q9 H' n' hc
  exact hc.up (fun p9 he => by rw [Yq he] at hr; exact hr) (Nat.le_refl _) (fun k _ _ _ => rfl)
 rintro rr H1 n9 hc
 obtain ⟨_, v1, he, h1, rfl, hl1⟩ := hc.got hk hko hne
 obtain ⟨x1, hx1, hy⟩ := map_ok he
 cases hy
 have hg1 := (WZ ht f).2.2.1 s x1.1 x1.2 hI hx1
 have hm1 := hg1.2.1
 simp only [hx1, Y7] at hr
 try simp only [go_sem, seval, YC]
 apply hK; clear hK K
 refine Zb fun K1 hK1 => ?_
 refine Zk ?_
 refine Zy (fun T' H' n' => ∃ (g : Nat) (b : Tst) (s1 : Qst) (v1 : Nat) (av : AV) (j : Nat), r = (orsF fs t g b s1).map (fun x => (YT x.1, x.2)) ∧ 4 * s1.m t + 2 ≤ g ∧ g ≤ f ∧ QI t s1 ∧ T' = tl [(0, .loc kr 0 0 0 []), (3, av)] ∧ QdH fs t kr ko s1 v1 H' n' ∧ (∀ H2 : Heap, (∀ k, n ≤ k → k < n' → H2 k = H' k) → Frz H2 n av (YT b)) ∧ (av.sz = 1 ∧ av.memOK = true ∧ av.isAgg = false ∧ ∀ g, strip g av = av) ∧ (∀ k, k < n → k ≠ kr → k ≠ ko → H' k = H k) ∧ n' = n + 2 * j ∧ j + s1.m t ≤ s.m t) (fun _ _ n' => 2 * s.m t + n + 2 - n') ?_ ?_
 ·skip
  exact ⟨f, x1.1, x1.2, v1, YT x1.1, 0, hr, by omega, by omega, hg1.1, rfl, h1, fun _ _ => .kl (Y8 _ _), ⟨Xj _, Xu _, Wx _, fun g => YC g _⟩, fun k e1 e2 e3 => hl1 k e2 e3, rfl, by omega⟩
 intro T1 H1 n1
 rintro ⟨g, b, s1, v1, av, j, hr, hmg, hgf, hI1, rfl, hQ, hfz, ⟨hav1, hav2, hav3, hav4⟩, hlow, rfl, hj⟩
 obtain ⟨g, rfl⟩ : ∃ q, g = q + 1 := ⟨g - 1, by omega⟩
 simp only [orsF] at hr
 have g1 : (n + 2 * j = n + 2 * j + 1) = False := by simp
 have g2 : (n + 2 * j + 1 = n + 2 * j) = False := by simp
 refine Zb fun K2 hK2 => ?_
 refine Za zs [0, 3, 9] fun K hK => ?_
 try simp only [go_sem, seval]
 refine Zg func186 rfl rfl rfl ((Xq fs t s1 kr ko v1 wOr _ _ hQ.r)) ?_
 apply hK; clear hK K
 refine Zf ?_ ?_ <;> intro hb
 ·skip
  rw [if_pos hb] at hr
  refine Zd ?_
  try simp only [go_sem, seval]
  apply hK2
  clear hK2 K2
  refine Zk ?_
  refine Za zs [0, 3] fun K hK => ?_
  try simp only [go_sem, seval]
  refine Zi (args' := [.loc kr 0 0 0 []]) func187 rfl rfl rfl (YI fs t s1 kr ko v1 ht hI1.far (hI1.outs ht) _ _ hQ) ?_ ?_
  rotate_left
  ·skip
   rintro q9 H' n' hc
   exact hc.up (fun p9 he => by rw [Yq he] at hr; exact hr) (by omega) hlow
  rintro rr H2 n9 hc
  obtain ⟨_, v2, he, h2, rfl, hl2⟩ := hc.got (by omega) (by omega) hne
  obtain ⟨x2, hx2, hy⟩ := map_ok he
  cases hy
  have ht2 := YR ht hI1 (YY hb) (w := x2.1) (s' := x2.2) hx2
  have hI2 := ht2.1.1
  have hm2 := ht2.2.1
  simp only [hx2, Y7] at hr
  apply hK; clear hK K
  refine Za zs [0, 4, 5] fun K hK => ?_
  try simp only [go_sem, seval, hav1, hav2, hav4]
  refine Zi (args' := [.loc kr 0 0 0 []]) func185 rfl rfl rfl (hF g (by omega) x2.2 v2 _ _ hI2 (by omega) h2) ?_ ?_
  rotate_left
  ·skip
   rintro q9 H' n' hc
   exact hc.up (fun p9 he => by rw [Yq he] at hr; exact hr) (by omega) (fun k e1 e2 e3 => (hl2 k e2 e3).trans (hlow k e1 e2 e3))
  rintro rr H3 n9 hc
  obtain ⟨_, v3, he, h3, rfl, hl3⟩ := hc.got (by omega) (by omega) hne
  obtain ⟨x3, hx3, hy⟩ := map_ok he
  cases hy
  have hg3 := (WZ ht g).2.2.1 x2.2 x3.1 x3.2 hI2 hx3
  have hm3 := hg3.2.1
  simp only [hx3, Y7] at hr
  try simp only [go_sem, seval, Xj, Xu]
  apply hK; clear hK K
  refine Zl zs [0, 3] fun K hK => ?_
  try simp only [go_sem, seval]
  apply hK; clear hK K
  try simp only [go_sem, seval]
  refine ⟨⟨g, .or b x3.1, x3.2, v3, _, j + 1, hr, by omega, by omega, hg3.1, rfl, ?_, ?_, ⟨rfl, rfl, rfl, fun g => by cases g <;> rfl⟩, ?_, by omega, by omega⟩, by omega⟩
  ·exact h3.low (fun k hk9 => by simp only [Heap.put_get]; (repeat rw [if_neg (by omega)])) (by omega)
  ·intro H4 hag
   have hb1 : H4 (n + 2 * j) = some (.arr 0 1 [av]) := (hag _ (by omega) (by omega)).trans (by (try simp only [Heap.put_get]); simp)
   have hb2 : H4 (n + 2 * j + 1) = some (.arr 0 1 [YT x3.1]) := (hag _ (by omega) (by omega)).trans (by (try simp only [Heap.put_get]); simp)
   exact .fn .nil (.cons (X4 hb1 (by omega) (hfz H4 fun k a1 a2 => (hag k a1 (by omega)).trans (by (try simp only [Heap.put_get]); (repeat rw [if_neg (by omega)]); rw [hl3 k (by omega) (by omega)]; exact hl2 k (by omega) (by omega)))) (.cons (X4 hb2 (by omega) (.kl (Y8 _ _))) .nil))
  ·intro k e1 e2 e3
   (repeat rw [if_neg (by omega)])
   rw [hl3 k e2 e3, hl2 k e2 e3]; exact hlow k e1 e2 e3
 rw [if_neg (by rw [hb]; simp), QO] at hr
 refine Zz ?_
 try simp only [go_sem, seval]
 apply hK1
 refine Za zs [2] fun K hK => ?_
 try simp only [go_sem, seval, hav4]
 apply hK; clear hK K
 refine Ze ?_
 try simp only [go_sem, seval]
 exact QdE.ok hr hQ hko hlow (hfz _ (fun _ _ _ => rfl))
theorem c_query_all {fs : List Fml} (hfs : fs.length ≤ 1048576) {t : List UInt8} (ht : t.length ≤ 512) {kr ko : Nat} : ∀ f, (∀ g, g ≤ f → FactK fs t kr ko g) ∧ (∀ g, g ≤ f → TermK fs t kr ko g) ∧ ∀ g, g ≤ f → CondK fs t kr ko g
 | 0 => by
   refine ⟨fun g hg => ?_, fun g hg => ?_, fun g hg => ?_⟩ <;> (intro s ver H n hI hm h; omega)
 | f + 1 => by
   obtain ⟨h1, h2, h3⟩ := c_query_all hfs ht f
   refine ⟨fun g hg => ?_, fun g hg => ?_, fun g hg => ?_⟩
   ·rcases Nat.lt_or_ge g (f + 1) with q | q
    ·exact h1 g (by omega)
    ·obtain rfl : g = f + 1 := by omega
     exact c_query_fact hfs ht (h1 f (Nat.le_refl _)) (h3 f (Nat.le_refl _))
   ·exact c_query_term ht fun q hq => h1 q (by omega)
   ·exact c_query_cond ht fun q hq => h2 q (by omega)
structure Qj (k : Nat) (a b c d : AV) (H : Heap) : Prop where
 c1 : H k = some (.arr 0 1 [a])
 c2 : H (k + 1) = some (.arr 0 1 [b])
 c3 : H (k + 2) = some (.arr 0 1 [c])
 c4 : H (k + 3) = some (.arr 0 1 [d])
 sz : a.sz = 1 ∧ b.sz = 1 ∧ c.sz = 1 ∧ d.sz = 1
theorem W9 {k : Nat} {H : Heap} {n : Nat} : XP prog 160 [.loc k 0 0 0 [], .loc (k + 1) 0 0 0 [], .loc (k + 2) 0 0 0 [], .loc (k + 3) 0 0 0 []] .ret H n (fun m' H' n' => m' = .ret ∧ H' = H ∧ n' = n) := by
 refine UB zs [0, 1, 2, 3, 7] 0 func160 rfl ntmps160 (congrArg Array.toList results160) (by simp) rfl (by show _ < _; decide) fun K hK => ?_
 try simp only [go_sem, seval]
 repeat refine peel ?_
 apply hK; clear hK K
 refine Zk ?_
 refine ZB zs [0, 1, 2, 3, 7, 9] ?_
 refine Zf ?_ ?_ <;> intro hb
 ·skip
  refine Zl zs [] fun K hK => ?_
  try simp only [go_sem, seval]
  repeat refine peel ?_
  apply hK; clear hK K
  try simp only [go_sem, seval]
  try simp only [go_sem, seval]
 exact absurd hb (by decide) --dead
theorem XK {k : Nat} {a b c d : AV} (p : Nat) {H : Heap} {n : Nat} (hk : k + 3 < n) (h : Qj k a b c d H) : XP prog 160 [.loc k 0 0 0 [], .loc (k + 1) 0 0 0 [], .loc (k + 2) 0 0 0 [], .loc (k + 3) 0 0 0 []] (.pan (Uj p)) H n (fun m' H' n' => m' = .ret ∧ n ≤ n' ∧ Qj k .nilf (.str []) (.int .i64 p) (.bool false) H' ∧ ∀ j, j < k → H' j = H j) := by
 unfold Uj
 have h1 := h.c1
 have h2 := h.c2
 have h3 := h.c3
 have h4 := h.c4
 obtain ⟨z1, z2, z3, z4⟩ := h.sz
 have g1 : (k = n) = False := by simp; omega
 have g2 : (k + 1 = n) = False := by simp; omega
 have g3 : (k + 2 = n) = False := by simp; omega
 have g4 : (k + 3 = n) = False := by simp; omega
 have g5 : (k + 1 = k) = False := by simp
 have g6 : (k + 2 = k) = False := by simp
 have g7 : (k + 3 = k) = False := by simp
 have g8 : (k + 2 = k + 1) = False := by simp
 have g9 : (k + 3 = k + 1) = False := by simp
 have f1 : (k + 3 = k + 2) = False := by simp
 have f2 : (n = k) = False := by simp; omega
 have f3 : (n = k + 1) = False := by simp; omega
 have f4 : (n = k + 2) = False := by simp; omega
 have f5 : (n = k + 3) = False := by simp; omega
 refine UB zs [0, 1, 2, 3, 7] 0 func160 rfl ntmps160 (congrArg Array.toList results160) (by simp) rfl (by show _ < _; decide) fun K hK => ?_
 try simp only [go_sem, seval, h1, h2, h3, h4, z1, z2, z3, z4, g1, g2, g3, g4, g5, g6, g7, g8, g9, f1, f2, f3, f4, f5]
 repeat refine peel ?_
 apply hK; clear hK K
 refine Zk ?_
 refine Za zs [0, 1, 2, 3, 7, 9] fun K hK => ?_
 try simp only [go_sem, seval, h1, h2, h3, h4, z1, z2, z3, z4, g1, g2, g3, g4, g5, g6, g7, g8, g9, f1, f2, f3, f4, f5]
 repeat refine peel ?_
 apply hK; clear hK K
 refine Zf ?_ ?_ <;> intro hb
 ·skip
  exact absurd hb (by decide) --dead
 refine Za zs [0, 1, 2, 3, 7, 11, 12] fun K hK => ?_
 try simp only [go_sem, seval, h1, h2, h3, h4, z1, z2, z3, z4, g1, g2, g3, g4, g5, g6, g7, g8, g9, f1, f2, f3, f4, f5]
 repeat refine peel ?_
 apply hK; clear hK K
 refine Zf ?_ ?_ <;> intro hb
 ·skip
  refine Za zs [0, 1, 2, 3, 5] fun K hK => ?_
  try simp only [go_sem, seval, h1, h2, h3, h4, z1, z2, z3, z4, g1, g2, g3, g4, g5, g6, g7, g8, g9, f1, f2, f3, f4, f5]
  repeat refine peel ?_
  apply hK; clear hK K
  refine awp_drw1 rfl zs [] [.q, .q, .w [0, 1], .w [0, 1], .w [], .w []] (by kernel_rfl) (fun _ _ _ _ _ h => h) fun K hK => ?_
  try simp only [go_sem, seval, h1, h2, h3, h4, z1, z2, z3, z4, g1, g2, g3, g4, g5, g6, g7, g8, g9, f1, f2, f3, f4, f5]
  repeat refine peel ?_
  apply hK; clear hK K
  try simp only [go_sem, seval, h1, h2, h3, h4, z1, z2, z3, z4, g1, g2, g3, g4, g5, g6, g7, g8, g9, f1, f2, f3, f4, f5]
  try simp only [go_sem, seval, h1, h2, h3, h4, z1, z2, z3, z4, g1, g2, g3, g4, g5, g6, g7, g8, g9, f1, f2, f3, f4, f5]
  refine ⟨by omega, ⟨by simp [Heap.put], by simp [Heap.put], by simp [Heap.put], by simp [Heap.put], rfl, rfl, rfl, rfl⟩, fun j hj => ?_⟩
  try simp only [Heap.put_get]
  (repeat rw [if_neg (by omega)])
 exact absurd hb (by decide) --dead
def parseAV : Except Nat (Tst × List UInt8) → AV
 | .ok x => .tup [YT x.1, .str x.2, .int .i64 0, .bool true]
 | .error p => .tup [.nilf, .str [], .int .i64 p, .bool false]
def NoPan (Q : AEx → (Nat → AV) → Heap → Nat → Prop) : AEx → (Nat → AV) → Heap → Nat → Prop := fun e T H n => match e with | .pan _ => False | e => Q e T H n
theorem awp_noPan {P : Program} {N : Nat} {code : Code} {T : Nat → AV} {H : Heap} {n : Nat} {Q : AEx → (Nat → AV) → Heap → Nat → Prop} (h : awp P N code T H n (NoPan Q)) : awp P N code T H n Q :=
 h.mono fun e _ _ _ hq => by cases e <;> first | exact hq | exact hq.elim
def qst0 : Qst := ⟨0, ⟨0, 0, [], 0, []⟩, [], 0⟩
theorem step_QI {t : List UInt8} (ht : t.length ≤ 512) {s : Qst} (h : Q6 t qst0 = .ok s) : QI t s := by
 unfold Q6 at h
 obtain ⟨x, hx, hy⟩ := map_ok h
 obtain ⟨g1, g2, g3, g4, g5⟩ := wordF_len ht (Nat.zero_le _) (w := x.1) (q := x.2) hx
 subst hy
 refine ⟨g2, ?_, Nat.zero_le _, fun w hw => (by cases hw), g5⟩
 show ([] : List Wd).length + _ ≤ _
 unfold Qst.m
 simp only [List.length_nil]
 split <;> omega
theorem qi_mle {t : List UInt8} {s : Qst} (h : QI t s) : s.m t ≤ t.length + 1 := by have := h.out; omega
theorem Qj.on {k : Nat} {a b c d : AV} {H H' : Heap} (h : Qj k a b c d H) (hl : ∀ j, k ≤ j → j < k + 4 → H' j = H j) : Qj k a b c d H' :=
 ⟨(hl _ (by omega) (by omega)).trans h.c1, (hl _ (by omega) (by omega)).trans h.c2, (hl _ (by omega) (by omega)).trans h.c3, (hl _ (by omega) (by omega)).trans h.c4, h.sz⟩
set_option maxHeartbeats 3200000 in
theorem QC (fs : List Fml) (hfs : fs.length ≤ 1048576) (t : List UInt8) (H : Heap) (n : Nat) : Ret prog 142 [Zu fs, .str t] H n (parseAV (parseF fs t)) H n := by
 have hszs : (Zu fs).sz = 1 := rfl
 have hags : (Zu fs).isAgg = true := rfl
 have hmos : (Zu fs).memOK = true := rfl
 have hR1 := hszs
 have c1 := hszs
 have c2 := hszs
 have hB := hszs
 have hO1 := hszs
 have hnth := hszs
 have hx := hszs
 obtain ⟨r, hr⟩ : ∃ r, r = parseF fs t := ⟨_, rfl⟩
 rw [← hr]
 unfold parseF at hr
 have f1 : (n = n + 1) = False := by simp
 have f2 : (n = n + 2) = False := by simp
 have f3 : (n = n + 3) = False := by simp
 have f4 : (n = n + 4) = False := by simp
 refine Ret.fin ?_
 refine Qg func142 rfl ntmps142 (congrArg Array.toList results142) (by simp) ?_
 simp only [go_sem]
 refine awpD_reg zs [1, 2, 4, 5, 6, 7] fun K hK => ?_
 try simp only [go_sem, seval, hszs, hags, hmos, Nat.add_assoc, f1, f2, f3, f4]
 repeat refine peel ?_
 apply hK; clear hK K
 refine awpD_seq_k fun K1 hK1 => ?_
 refine Za zs [1, 2, 4, 5, 6, 7, 13] fun K hK => ?_
 try simp only [go_sem, seval, hszs, hags, hmos, Nat.add_assoc, f1, f2, f3, f4]
 repeat refine peel ?_
 apply hK; clear hK K
 refine Zf ?_ ?_ <;> intro hb
 ·skip
  have hb8 : 512 < t.length := by have := of_decide_eq_true hb; omega
  rw [if_pos hb8] at hr
  refine Za zs [4, 5, 6, 7] fun K hK => ?_
  try simp only [go_sem, seval, hszs, hags, hmos, Nat.add_assoc, f1, f2, f3, f4]
  repeat refine peel ?_
  apply hK; clear hK K
  first | refine Yh (fun H' n' => Qj (n + 1) (YT x2.1) (.str (X8 none x2.2.out)) (.int .i64 0) (.bool true) H' ∧ (∀ k, k < n → H' k = H k)) ⟨⟨by simp [Heap.put], by simp [Heap.put, htk], by simp [Heap.put], by simp [Heap.put], Xj _, rfl, rfl, rfl⟩, fun k hk => by (try simp only [Heap.put_get]); (repeat rw [if_neg (by omega)]); exact hl9 k hk⟩ fun Hz nz ⟨hC, hlz⟩ => ?_ | skip
  refine Ze ?_
  try simp only [go_sem, seval, hszs, hags, hmos, Nat.add_assoc, f1, f2, f3, f4]
  try simp only [NoPan, FinD]
  first
  | exact ⟨_, rfl, fun k hk => by (repeat rw [if_neg (by omega)]), by rw [hr]; exact .kl ⟨trivial, trivial, trivial, trivial, trivial⟩⟩
  | (refine (W9 (k := n + 1)).mono ?_
     rintro m' H' n' ⟨rfl, rfl, rfl⟩
     have c1 := hC.c1
     have c2 := hC.c2
     have c3 := hC.c3
     have c4 := hC.c4
     simp only [FinA, go_sem, seval, Nat.add_assoc] at c1 c2 c3 c4 ⊢
     simp only [FinA, go_sem, seval, Nat.add_assoc, c1, c2, c3, c4, Xj, Xu, Wx, YC]
     try refine ⟨trivial, ?_⟩
     exact ⟨_, rfl, hlz, by rw [hr]; exact .kl ⟨Y8 _ _, trivial, trivial, trivial, trivial⟩⟩)
 have hb8 : ¬ 512 < t.length := by have := of_decide_eq_false hb; omega
 rw [if_neg hb8] at hr
 refine Zd ?_
 try simp only [go_sem, seval, hszs, hags, hmos, Nat.add_assoc, f1, f2, f3, f4]
 apply hK1
 first | clear hK1 K1 | skip
 refine awpD_def zs [1, 2, 4, 5, 6, 7] 1 rfl trivial fun K hK => ?_
 try simp only [go_sem, seval, hszs, hags, hmos, Nat.add_assoc, f1, f2, f3, f4]
 first | refine ⟨⟨_, func160, rfl, rfl⟩, ?_⟩ | refine deferK_use func160 rfl rfl rfl ?_
 try simp only [go_sem, seval, hszs, hags, hmos, Nat.add_assoc, f1, f2, f3, f4]
 repeat refine peel ?_
 apply hK; clear hK K
 refine Yh (fun H' n' => H' n = some (.arr 0 1 [Zu fs]) ∧ Qj (n + 1) .nilf (.str []) (.int .i64 0) (.bool false) H' ∧ (∀ k, k < n → H' k = H k) ∧ n' = n + 5) ⟨by simp [Heap.put, Zu], ⟨by simp [Heap.put], by simp [Heap.put], by simp [Heap.put], by simp [Heap.put], rfl, rfl, rfl, rfl⟩, fun k hk => by (try simp only [Heap.put_get]); (repeat rw [if_neg (by omega)]), by omega⟩ fun H5 n5 ⟨r1, hC, hl5, hn5⟩ => ?_
 subst hn5
 refine Za zs [4, 5, 6, 7, 8] fun K hK => ?_
 try simp only [go_sem, seval, hszs, hags, hmos, Nat.add_assoc, f1, f2, f3, f4, r1]
 repeat refine peel ?_
 apply hK; clear hK K
 refine Xi (n + 5) 5 (ver := 0) (e := 10) (els := [.agg [Zu fs, .str t, .int .i64 0, .agg [.int .i64 0, .int .i64 0, .str [], .int .i64 0, .nilsl], .nilsl, .int .i64 0]]) (els' := [.agg [Zu fs, .str t, .int .i64 0, .agg [.int .i64 0, .int .i64 0, .str [], .int .i64 0, .nilsl], .osl (n + 6) 0 0 0, .int .i64 0]]) (by simp [Heap.put, Zu]) ⟨Adp.agg ⟨.refl _ _, .refl _ _, .refl _ _, .refl _ _, Adp.nilsl _, .refl _ _, trivial⟩, trivial⟩ ?_
 refine WI (n + 5) (ver := 0) (e := 10) (els := [.agg [Zu fs, .str t, .int .i64 0, .agg [.int .i64 0, .int .i64 0, .str [], .int .i64 0, .nilsl], .osl (n + 6) 0 0 0, .int .i64 0]]) (els' := [.agg [Zu fs, .str t, .int .i64 0, .agg [.int .i64 0, .int .i64 0, .str [], .int .i64 0, .sl 1 []], .osl (n + 6) 0 0 0, .int .i64 0]]) (Heap.put_same _ _ _) ⟨Wk.agg ⟨.refl _, .refl _, .refl _, Wk.agg ⟨.refl _, .refl _, .refl _, .refl _, .nilsl _, trivial⟩, .refl _, .refl _, trivial⟩, trivial⟩ ?_
 refine Yh (fun H' n' => QdH fs t (n + 5) (n + 6) qst0 0 H' n' ∧ Qj (n + 1) .nilf (.str []) (.int .i64 0) (.bool false) H' ∧ (∀ k, k < n → H' k = H k) ∧ n' = n + 7) ⟨⟨by omega, by omega, by omega, by simp [Heap.put, qdO, qst0, Zu, wdAV, bys], by simp [Heap.put, outO, qst0]⟩, hC.on (fun j a1 a2 => by (try simp only [Heap.put_get]); (repeat rw [if_neg (by omega)])), fun k hk => by (try simp only [Heap.put_get]); (repeat rw [if_neg (by omega)]); exact hl5 k hk, by omega⟩ fun H6 n6 ⟨hQ, hC, hl6, hn6⟩ => ?_
 subst hn6
 refine Za zs [4, 5, 6, 7, 8] fun K hK => ?_
 try simp only [go_sem, seval, hszs, hags, hmos, Nat.add_assoc, f1, f2, f3, f4]
 repeat refine peel ?_
 refine Zi (args' := [.loc (n + 5) 0 0 0 []]) func161 rfl rfl rfl (Jr fs t qst0 (n + 5) (n + 6) 0 (by omega) (Nat.zero_le _) _ _ hQ) ?_ ?_
 rotate_left
 ·skip
  rintro q9 H9 n9 hc
  obtain ⟨p, he, rfl, hn, hl⟩ := hc.pan
  have hr := hr.trans (bind_err (Yq he))
  refine (XK (k := n + 1) p (by omega) (hC.on fun j a1 a2 => hl _ (by omega) (by omega) (by omega))).mono ?_
  rintro m' H' n' ⟨rfl, q1, q2, q3⟩
  have c1 := q2.c1
  have c2 := q2.c2
  have c3 := q2.c3
  have c4 := q2.c4
  simp only [FinA, go_sem, seval, Nat.add_assoc] at c1 c2 c3 c4 ⊢
  simp only [FinA, go_sem, seval, Nat.add_assoc, c1, c2, c3, c4]
  exact ⟨_, rfl, fun k hk => (q3 k (by omega)).trans ((hl k (by omega) (by omega) (by omega)).trans (hl6 k hk)), by rw [hr]; exact .kl ⟨trivial, trivial, trivial, trivial, trivial⟩⟩
 rintro rr H7 n9 hc
 obtain ⟨x1, v1, he, h1, rfl, hl1⟩ := hc.got (by omega) (by omega) (by omega)
 obtain ⟨_, hx1, hy⟩ := map_ok he
 cases hy
 have hI1 := step_QI (by omega) hx1
 have hm1 := qi_mle hI1
 rw [show Q6 t ⟨0, ⟨0, 0, [], 0, []⟩, [], 0⟩ = .ok x1 from hx1, Y7] at hr
 have hC := hC.on (H' := H7) fun j a1 a2 => hl1 _ (by omega) (by omega)
 try simp only [go_sem, seval, hszs, hags, hmos, Nat.add_assoc, f1, f2, f3, f4]
 repeat refine peel ?_
 apply hK; clear hK K
 refine Za zs [4, 5, 6, 7, 8] fun K hK => ?_
 try simp only [go_sem, seval, hszs, hags, hmos, Nat.add_assoc, f1, f2, f3, f4, c1, Xj, Xu, Wx, YC]
 repeat refine peel ?_
 refine Zi (args' := [.loc (n + 5) 0 0 0 []]) func162 rfl rfl rfl ((c_query_all hfs (by omega) (8 * t.length + 16)).2.2 _ (Nat.le_refl _) x1 v1 _ _ hI1 (by omega) h1) ?_ ?_
 rotate_left
 ·skip
  rintro q9 H9 n9 hc
  obtain ⟨p, he, rfl, hn, hl⟩ := hc.pan
  have hr := hr.trans (bind_err (Yq he))
  refine (XK (k := n + 1) p (by omega) (hC.on fun j a1 a2 => hl _ (by omega) (by omega) (by omega))).mono ?_
  rintro m' H' n' ⟨rfl, q1, q2, q3⟩
  have c1 := q2.c1
  have c2 := q2.c2
  have c3 := q2.c3
  have c4 := q2.c4
  simp only [FinA, go_sem, seval, Nat.add_assoc] at c1 c2 c3 c4 ⊢
  simp only [FinA, go_sem, seval, Nat.add_assoc, c1, c2, c3, c4]
  exact ⟨_, rfl, fun k hk => (q3 k (by omega)).trans ((hl k (by omega) (by omega) (by omega)).trans ((hl1 k (by omega) (by omega)).trans (hl6 k hk))), by rw [hr]; exact .kl ⟨trivial, trivial, trivial, trivial, trivial⟩⟩
 rintro rr H8 n9 hc
 obtain ⟨_, v2, he, h2, rfl, hl2⟩ := hc.got (by omega) (by omega) (by omega)
 obtain ⟨x2, hx2, hy⟩ := map_ok he
 cases hy
 have hg2 := (WZ (by omega) _).1 x1 x2.1 x2.2 hI1 hx2
 rw [hx2, Y7] at hr
 have hC := hC.on (H' := H8) fun j a1 a2 => hl2 _ (by omega) (by omega)
 have c1 := hC.c1
 try simp only [go_sem, seval, hszs, hags, hmos, Nat.add_assoc, f1, f2, f3, f4, c1, Xj, Xu, Wx, YC]
 repeat refine peel ?_
 apply hK; clear hK K
 refine Zb fun K2 hK2 => ?_
 refine Yh (fun H' n' => QdH fs t (n + 5) (n + 6) x2.2 v2 H' n' ∧ Qj (n + 1) (YT x2.1) (.str []) (.int .i64 0) (.bool false) H' ∧ (∀ k, k < n → H' k = H k) ∧ n' = n + 7) ⟨h2.on (Heap.put_ne _ _ (by omega)) (Heap.put_ne _ _ (by omega)) (Nat.le_refl _), ⟨Heap.put_same _ _ _, (Heap.put_ne _ _ (by omega)).trans hC.c2, (Heap.put_ne _ _ (by omega)).trans hC.c3, (Heap.put_ne _ _ (by omega)).trans hC.c4, Xj _, rfl, rfl, rfl⟩, fun k hk => by rw [Heap.put_ne _ _ (by omega), hl2 k (by omega) (by omega), hl1 k (by omega) (by omega)]; exact hl6 k hk, by omega⟩ fun H9 n9 ⟨hQ, hC, hl9, hn9⟩ => ?_
 subst hn9
 have hR1 := hQ.r
 unfold qdO at hR1
 refine Za zs [4, 5, 6, 7, 8, 28] fun K hK => ?_
 try simp only [go_sem, seval, hszs, hags, hmos, Nat.add_assoc, f1, f2, f3, f4, hR1, wdAV]
 repeat refine peel ?_
 apply hK; clear hK K
 refine Zf ?_ ?_ <;> intro hb
 ·skip
  have hb1 : x2.2.nxt.kind ≠ 0 := by have h9 := hb; simp at h9; omega
  rw [if_pos hb1] at hr
  refine Zl zs [4, 5, 6, 7, 8] fun K hK => ?_
  try simp only [go_sem, seval, hszs, hags, hmos, Nat.add_assoc, f1, f2, f3, f4, hR1, wdAV]
  repeat refine peel ?_
  refine Zi (args' := [.int .i64 x2.2.nxt.pos]) func163 rfl rfl rfl (Yn x2.2.nxt.pos _ _) ?_ ?_
  ·skip
   rintro rr H' n' ⟨rfl, rfl, hz⟩
   cases hz
  rintro q9 H' n' ⟨rfl, rfl, hz⟩
  cases hz
  refine (XK (k := n + 1) x2.2.nxt.pos (by omega) hC).mono ?_
  rintro m' H' n' ⟨rfl, q1, q2, q3⟩
  have c1 := q2.c1
  have c2 := q2.c2
  have c3 := q2.c3
  have c4 := q2.c4
  simp only [FinA, go_sem, seval, Nat.add_assoc] at c1 c2 c3 c4 ⊢
  simp only [FinA, go_sem, seval, Nat.add_assoc, c1, c2, c3, c4]
  exact ⟨_, rfl, fun k hk => (q3 k (by omega)).trans (hl9 k hk), by rw [hr]; exact .kl ⟨trivial, trivial, trivial, trivial, trivial⟩⟩
 have hb1 : ¬ x2.2.nxt.kind ≠ 0 := by have h9 := hb; simp at h9; omega
 rw [if_neg hb1] at hr
 refine Zd ?_
 try simp only [go_sem, seval, hszs, hags, hmos, Nat.add_assoc, f1, f2, f3, f4]
 apply hK2
 first | clear hK2 K2 | skip
 refine Zb fun K3 hK3 => ?_
 refine Za zs [4, 5, 6, 7, 8, 38, 39, 40] fun K hK => ?_
 try simp only [go_sem, seval, hszs, hags, hmos, Nat.add_assoc, f1, f2, f3, f4, hR1, wdAV]
 repeat refine peel ?_
 apply hK; clear hK K
 refine Zk ?_
 refine Zy (fun T' H' n' => ∃ i : Nat, i ≤ x2.2.out.length ∧ T' = tl [(4, .loc (n + 1) 0 0 0 []), (5, .loc (n + 2) 0 0 0 []), (6, .loc (n + 3) 0 0 0 []), (7, .loc (n + 4) 0 0 0 []), (8, .loc (n + 5) 0 0 0 []), (38, .osl (n + 6) v2 0 x2.2.out.length), (39, .int .i64 x2.2.out.length), (40, .int .i64 i)] ∧ QdH fs t (n + 5) (n + 6) x2.2 v2 H' n' ∧ Qj (n + 1) (YT x2.1) (.str (X8 none (x2.2.out.take i))) (.int .i64 0) (.bool false) H' ∧ (∀ k, k < n → H' k = H k) ∧ n + 7 ≤ n') (fun T' _ _ => x2.2.out.length - iv (T' 40)) ?_ ?_
 ·skip
  exact ⟨0, Nat.zero_le _, rfl, hQ, hC, hl9, Nat.le_refl _⟩
 intro T1 H1 n1
 rintro ⟨i, hi, rfl, hQ, hC, hl9, hn1⟩
 have hR1 := hQ.r
 unfold qdO at hR1
 have hO1 := hQ.o
 unfold outO at hO1
 have c1 := hC.c1
 have c2 := hC.c2
 have c3 := hC.c3
 have c4 := hC.c4
 have g1 : (n + 5 = n1) = False := by simp; omega
 have g2 : (n + 6 = n1) = False := by simp; omega
 have g3 : (n + 2 = n1) = False := by simp; omega
 have g4 : (n1 = n + 2) = False := by simp; omega
 have hol := hg2.1.outs (by omega)
 refine Za zs [4, 5, 6, 7, 8, 38, 39, 40, 41] fun K hK => ?_
 try simp only [go_sem, seval, hszs, hags, hmos, Nat.add_assoc, f1, f2, f3, f4]
 repeat refine peel ?_
 apply hK; clear hK K
 refine Zb fun K4 hK4 => ?_
 refine Zf ?_ ?_ <;> intro hb
 ·skip
  have hlt : i < x2.2.out.length := by have := of_decide_eq_true hb; omega
  have hnth : nth (x2.2.out.map wdAV) i = wdAV (x2.2.out.getD i default) := ZG wdAV _ _ hlt
  have hnth2 : nth (x2.2.out.map wdAV) ((i : Int) - 1).toNat = wdAV (x2.2.out.getD (i - 1) default) := by rw [show ((i : Int) - 1).toNat = i - 1 by omega]; exact ZG wdAV _ _ (by omega)
  have hx : IntKind.i64.wrap ((i : Int) + 1) = ((i + 1 : Nat) : Int) := w1 (by omega)
  have hx2 : IntKind.i64.wrap ((i : Int) - 1) = (i : Int) - 1 := w64 (by omega) (by omega)
  have hcan := canonG_take x2.2.out hlt
  have hcl := canonG_len (x2.2.out.take i) none (fun w hw => hg2.1.text w (List.mem_of_mem_take hw))
  rw [List.length_take] at hcl
  have htx := hg2.1.text _ (Wp x2.2.out hlt)
  refine Zd ?_
  try simp only [go_sem, seval, hszs, hags, hmos, Nat.add_assoc, f1, f2, f3, f4]
  apply hK4
  first | clear hK4 K4 | skip
  refine Zb fun K5 hK5 => ?_
  refine Zk ?_
  refine Za zs [4, 5, 6, 7, 8, 9, 10, 38, 39, 40] fun K hK => ?_
  try simp only [go_sem, seval, hszs, hags, hmos, Nat.add_assoc, f1, f2, f3, f4, hR1, hO1, c2, g1, g2, g3, g4, hnth, hx, wdAV, List.length_map, Int.toNat_natCast]
  repeat (first | (refine And.intro ?_ ?_; · first | exact ⟨by omega, by omega⟩) | refine peel ?_)
  apply hK; clear hK K
  refine Zb fun K6 hK6 => ?_
  refine Za zs [4, 5, 6, 7, 8, 10, 38, 39, 40, 63] fun K hK => ?_
  try simp only [go_sem, seval, hszs, hags, hmos, Nat.add_assoc, f1, f2, f3, f4, hR1, hO1, c2, g1, g2, g3, g4, hnth, hx, wdAV, List.length_map, Int.toNat_natCast, hnth2, hx2]
  repeat (first | (refine And.intro ?_ ?_; · first | (intro hx9; rcases Nat.eq_zero_or_pos i with q | q; (rw [decide_eq_false (by omega)] at hx9; cases hx9); first | exact ⟨by omega, by omega⟩ | omega) | (intros; simp_all; done)) | refine peel ?_)
  apply hK; clear hK K
  refine Zf ?_ ?_ <;> intro hb
  ·skip
   have hsep : X3 (if i = 0 then none else some (x2.2.out.getD (i - 1) default)) (x2.2.out.getD i default) = [32] := by
     have hi0 : i ≠ 0 := by intro e; rw [e] at hb; simp at hb
     rw [if_neg hi0]; unfold X3; rw [decide_eq_true (by omega)] at hb; simp at hb; simp [hb.1, hb.2]
   refine Zl zs [4, 5, 6, 7, 8, 10, 38, 39, 40] fun K hK => ?_
   try simp only [go_sem, seval, hszs, hags, hmos, Nat.add_assoc, f1, f2, f3, f4, hR1, hO1, c2, g1, g2, g3, g4, hnth, hx, wdAV, List.length_map, Int.toNat_natCast]
   repeat refine peel ?_
   apply hK; clear hK K
   try simp only [go_sem, seval, hszs, hags, hmos, Nat.add_assoc, f1, f2, f3, f4]
   apply hK6
   first | clear hK6 K6 | skip
   refine Zl zs [4, 5, 6, 7, 8, 38, 39, 40] fun K hK => ?_
   try simp only [go_sem, seval, hszs, hags, hmos, Nat.add_assoc, f1, f2, f3, f4, hR1, hO1, c2, g1, g2, g3, g4, hnth, hx, wdAV, List.length_map, Int.toNat_natCast]
   repeat (first | (refine And.intro ?_ ?_; · first | (simp only [List.length_append, List.length_cons, List.length_nil]; omega)) | refine peel ?_)
   apply hK; clear hK K
   try simp only [go_sem, seval, hszs, hags, hmos, Nat.add_assoc, f1, f2, f3, f4]
   apply hK5
   first | clear hK5 K5 | skip
   refine Zl zs [4, 5, 6, 7, 8, 38, 39, 40] fun K hK => ?_
   try simp only [go_sem, seval, hszs, hags, hmos, Nat.add_assoc, f1, f2, f3, f4, hR1, hO1, c2, g1, g2, g3, g4, hnth, hx, wdAV, List.length_map, Int.toNat_natCast]
   repeat refine peel ?_
   apply hK; clear hK K
   try simp only [go_sem, seval, hszs, hags, hmos, Nat.add_assoc, f1, f2, f3, f4]
   refine ⟨⟨i + 1, by omega, rfl, hQ.on (by (try simp only [Heap.put_get]); (repeat rw [if_neg (by omega)])) (by (try simp only [Heap.put_get]); (repeat rw [if_neg (by omega)])) (by omega), ⟨?_, ?_, ?_, ?_, hC.sz.1, rfl, rfl, rfl⟩, fun k hk => by (try simp only [Heap.put_get]); (repeat rw [if_neg (by omega)]); exact hl9 k hk, by omega⟩, by omega⟩
   ·(try simp only [Heap.put_get]); (repeat rw [if_neg (by omega)]); exact hC.c1
   ·rw [Heap.put_same, hcan, hsep]; simp
   ·(try simp only [Heap.put_get]); (repeat rw [if_neg (by omega)]); exact hC.c3
   ·(try simp only [Heap.put_get]); (repeat rw [if_neg (by omega)]); exact hC.c4
  have hsep : X3 (if i = 0 then none else some (x2.2.out.getD (i - 1) default)) (x2.2.out.getD i default) = [] := by
    by_cases hi0 : i = 0
    ·rw [if_pos hi0]; rfl
    ·rw [if_neg hi0]; unfold X3; simp only; rw [if_neg]; rintro ⟨a1, a2⟩; rw [decide_eq_true (by omega), show ((x2.2.out.getD i default).text == [41]) = false by simpa using a1, show ((x2.2.out.getD (i - 1) default).text == [40]) = false by simpa using a2] at hb; cases hb
  refine Zd ?_
  try simp only [go_sem, seval, hszs, hags, hmos, Nat.add_assoc, f1, f2, f3, f4]
  apply hK6
  first | clear hK6 K6 | skip
  refine Zl zs [4, 5, 6, 7, 8, 38, 39, 40] fun K hK => ?_
  try simp only [go_sem, seval, hszs, hags, hmos, Nat.add_assoc, f1, f2, f3, f4, hR1, hO1, c2, g1, g2, g3, g4, hnth, hx, wdAV, List.length_map, Int.toNat_natCast]
  repeat (first | (refine And.intro ?_ ?_; · first | (simp only [List.length_append, List.length_cons, List.length_nil]; omega)) | refine peel ?_)
  apply hK; clear hK K
  try simp only [go_sem, seval, hszs, hags, hmos, Nat.add_assoc, f1, f2, f3, f4]
  apply hK5
  first | clear hK5 K5 | skip
  refine Zl zs [4, 5, 6, 7, 8, 38, 39, 40] fun K hK => ?_
  try simp only [go_sem, seval, hszs, hags, hmos, Nat.add_assoc, f1, f2, f3, f4, hR1, hO1, c2, g1, g2, g3, g4, hnth, hx, wdAV, List.length_map, Int.toNat_natCast]
  repeat refine peel ?_
  apply hK; clear hK K
  try simp only [go_sem, seval, hszs, hags, hmos, Nat.add_assoc, f1, f2, f3, f4]
  refine ⟨⟨i + 1, by omega, rfl, hQ.on (by (try simp only [Heap.put_get]); (repeat rw [if_neg (by omega)])) (by (try simp only [Heap.put_get]); (repeat rw [if_neg (by omega)])) (by omega), ⟨?_, ?_, ?_, ?_, hC.sz.1, rfl, rfl, rfl⟩, fun k hk => by (try simp only [Heap.put_get]); (repeat rw [if_neg (by omega)]); exact hl9 k hk, by omega⟩, by omega⟩
  ·(try simp only [Heap.put_get]); (repeat rw [if_neg (by omega)]); exact hC.c1
  ·rw [Heap.put_same, hcan, hsep]; simp
  ·(try simp only [Heap.put_get]); (repeat rw [if_neg (by omega)]); exact hC.c3
  ·(try simp only [Heap.put_get]); (repeat rw [if_neg (by omega)]); exact hC.c4
 have hge : i = x2.2.out.length := by have := of_decide_eq_false hb; omega
 have htk : x2.2.out.take i = x2.2.out := List.take_of_length_le (by omega)
 refine Zz ?_
 try simp only [go_sem, seval, hszs, hags, hmos, Nat.add_assoc, f1, f2, f3, f4]
 apply hK3
 first | clear hK3 K3 | skip
 refine awp_noPan ?_
 refine YF rfl zs [4, 5, 6, 7] [.q, .q, .w [1], .w [], .w [], .w []] (by kernel_rfl) (fun _ _ _ _ _ h => h) fun K hK => ?_
 try simp only [go_sem, seval, hszs, hags, hmos, Nat.add_assoc, f1, f2, f3, f4, c1, c2, c3, c4, Xj, Xu, Wx, YC]
 repeat refine peel ?_
 apply hK; clear hK K
 first | refine Yh (fun H' n' => Qj (n + 1) (YT x2.1) (.str (X8 none x2.2.out)) (.int .i64 0) (.bool true) H' ∧ (∀ k, k < n → H' k = H k)) ⟨⟨by simp [Heap.put], by simp [Heap.put, htk], by simp [Heap.put], by simp [Heap.put], Xj _, rfl, rfl, rfl⟩, fun k hk => by (try simp only [Heap.put_get]); (repeat rw [if_neg (by omega)]); exact hl9 k hk⟩ fun Hz nz ⟨hC, hlz⟩ => ?_ | skip
 refine Ze ?_
 try simp only [go_sem, seval, hszs, hags, hmos, Nat.add_assoc, f1, f2, f3, f4]
 try simp only [NoPan, FinD]
 first
 | exact ⟨_, rfl, fun k hk => by (repeat rw [if_neg (by omega)]), by rw [hr]; exact .kl ⟨trivial, trivial, trivial, trivial, trivial⟩⟩
 | (refine (W9 (k := n + 1)).mono ?_
    rintro m' H' n' ⟨rfl, rfl, rfl⟩
    have c1 := hC.c1
    have c2 := hC.c2
    have c3 := hC.c3
    have c4 := hC.c4
    simp only [FinA, go_sem, seval, Nat.add_assoc] at c1 c2 c3 c4 ⊢
    simp only [FinA, go_sem, seval, Nat.add_assoc, c1, c2, c3, c4, Xj, Xu, Wx, YC]
    try refine ⟨trivial, ?_⟩
    exact ⟨_, rfl, hlz, by rw [hr]; exact .kl ⟨Y8 _ _, trivial, trivial, trivial, trivial⟩⟩)
end Go.Proofs.YtifnhpmeoogedaaGreatDoor
namespace Go.Rt
open Go Go.Sx
def fbad (nf : Nat) (l : List Int) (i : Nat) : Bool := decide (l.getD i 0 < 0) || decide ((nf : Int) ≤ l.getD i 0) || (decide (0 < i) && decide (l.getD i 0 ≤ l.getD (i - 1) 0))
def VW (nf : Nat) (l : List Int) : Bool := (List.range l.length).all fun i => !fbad nf l i
def fits1 (q : QryE) : Bool := decide (256 < q.frm.length) || decide (256 < q.to.length) || (decide (0 < q.to.length) && decide (Lib.compareBytes q.to q.frm ≤ 0))
def fits3 (q : QryE) : Bool := decide (q.pre.length ≤ 256) && decide (0 ≤ q.time) && decide (q.time ≤ 1099511627776) && decide (1 ≤ q.n) && decide (q.n ≤ 16) && decide (1 ≤ q.rows) && decide (q.rows ≤ 1000)
def UV (nf : Nat) (q : QryE) : Bool := !fits1 q && VW nf q.fams && fits3 q
def asksB (q : QryE) (row : List UInt8) : Bool := decide (0 ≤ Lib.compareBytes row q.frm) && (decide (q.to.length = 0) || decide (Lib.compareBytes row q.to < 0))
theorem fitsQ_nums {nf : Nat} (hn : nf ≤ 8) {q : QryE} (h : UV nf q = true) : q.nums := by
 unfold UV VW fits3 at h
 simp only [Bool.and_eq_true, decide_eq_true_eq, List.all_eq_true, List.mem_range] at h
 obtain ⟨⟨_, h2⟩, h3⟩ := h
 refine ⟨fun f hf => ?_, by omega, by omega, by omega⟩
 obtain ⟨i, hi, rfl⟩ := List.mem_iff_getElem.1 hf
 have := h2 i hi
 unfold fbad at this
 have e : q.fams.getD i 0 = q.fams[i] := by simp [List.getD, hi]
 rw [e] at this
 simp at this
 omega
structure QryE.fine (q : QryE) : Prop where
 frm : q.frm.length ≤ 1048576
 to : q.to.length ≤ 1048576
 fams : q.fams.length ≤ 1048576
 pre : q.pre.length ≤ 1048576
 whr : q.whr.length ≤ 1048576
 token : q.token.length ≤ 1048576
def Vr (fs : List Fml) (t : List UInt8) : List UInt8 × Int × Int :=
 if Z7 fs ≠ 0 then ([], Z7 fs, 0) else match parseF fs t with | .ok x => (x.2, 0, 0) | .error p => ([], 131, p)
end Go.Rt
namespace Go.Proofs.YtifnhpmeoogedaaGreatDoor
open Go Go.Sx Go.Rt Go.Proofs Tryz
theorem QX (fs : List Fml) (hfs : fs.length ≤ 1048576) (t : List UInt8) (H : Heap) (n : Nat) : Ret prog 110 [Zu fs, .str t] H n (.tup [.str (Vr fs t).1, .int .i64 (Vr fs t).2.1, .int .i64 (Vr fs t).2.2]) H n := by
 have hszs : (Zu fs).sz = 1 := rfl
 have hags : (Zu fs).isAgg = true := rfl
 have hmos : (Zu fs).memOK = true := rfl
 refine Ret.fin ?_
 refine Zc func110 rfl ntmps110 (congrArg Array.toList results110) (by simp) ?_
 simp only [go_sem]
 refine Za zs [1, 2] fun K hK => ?_
 try simp only [go_sem, seval]
 apply hK; clear hK K
 refine Zb fun K1 hK1 => ?_
 refine Za zs [1, 2, 7] fun K hK => ?_
 try simp only [go_sem, seval]
 refine Zg func47 rfl rfl rfl ((Xr fs _ _)) ?_
 try simp only [go_sem, seval]
 apply hK; clear hK K
 refine Za zs [1, 2, 7, 15] fun K hK => ?_
 try simp only [go_sem, seval]
 apply hK; clear hK K
 refine Zf ?_ ?_ <;> intro hb
 ·skip
  have hw : Vr fs t = ([], Z7 fs, 0) := by unfold Vr; rw [if_pos (by simpa using hb)]
  refine Za zs [4, 5, 6] fun K hK => ?_
  try simp only [go_sem, seval]
  apply hK; clear hK K
  refine Ze ?_
  try simp only [go_sem, seval]
  exact ⟨_, rfl, fun k hk => by (repeat rw [if_neg (by omega)]), by rw [hw]; exact .kl ⟨trivial, trivial, trivial, trivial⟩⟩
 have hs0 : Z7 fs = 0 := by simpa using hb
 refine Zd ?_
 try simp only [go_sem, seval]
 apply hK1
 clear hK1 K1
 rcases hp : parseF fs t with p | x
 ·skip
  have hw : Vr fs t = ([], 131, (p : Int)) := by unfold Vr; rw [if_neg (by simp [hs0]), hp]
  refine Za zs [9, 10, 11] fun K hK => ?_
  try simp only [go_sem, seval]
  refine Zg func142 rfl rfl rfl ((hp ▸ QC fs hfs t _ _)) ?_
  try simp only [go_sem, seval, parseAV]
  apply hK; clear hK K
  refine Zb fun K2 hK2 => ?_
  refine Za zs [9, 10, 26] fun K hK => ?_
  try simp only [go_sem, seval]
  apply hK; clear hK K
  refine Zf ?_ ?_ <;> intro hb
  ·skip
   refine Za zs [4, 5, 6] fun K hK => ?_
   try simp only [go_sem, seval]
   apply hK; clear hK K
   refine Ze ?_
   try simp only [go_sem, seval]
   exact ⟨_, rfl, fun k hk => by (repeat rw [if_neg (by omega)]), by rw [hw]; exact .kl ⟨trivial, trivial, trivial, trivial⟩⟩
  exact absurd hb (by decide) --dead
 ·skip
  have hw : Vr fs t = (x.2, 0, 0) := by unfold Vr; rw [if_neg (by simp [hs0]), hp]
  refine Za zs [9, 10, 11] fun K hK => ?_
  try simp only [go_sem, seval]
  refine Zg func142 rfl rfl rfl ((hp ▸ QC fs hfs t _ _)) ?_
  try simp only [go_sem, seval, parseAV]
  apply hK; clear hK K
  refine Zb fun K2 hK2 => ?_
  refine Za zs [9, 10, 26] fun K hK => ?_
  try simp only [go_sem, seval]
  apply hK; clear hK K
  refine Zf ?_ ?_ <;> intro hb
  ·skip
   exact absurd hb (by decide) --dead
  refine Zd ?_
  try simp only [go_sem, seval]
  apply hK2
  clear hK2 K2
  refine Za zs [4, 5, 6] fun K hK => ?_
  try simp only [go_sem, seval]
  apply hK; clear hK K
  refine Ze ?_
  try simp only [go_sem, seval]
  exact ⟨_, rfl, fun k hk => by (repeat rw [if_neg (by omega)]), by rw [hw]; exact .kl ⟨trivial, trivial, trivial, trivial⟩⟩
theorem XI {H : Heap} {n : Nat} {a b : Bool} (h : a = b) : Frz H n (.bool a) (.bool b) := h ▸ .kl trivial
theorem c_query_asks (q : QryE) (row : List UInt8) (H : Heap) (n : Nat) : Ret prog 144 [Zq q, bys row] H n (.bool (asksB q row)) H n := by
 have hsz : (Zq q).sz = 10 := Yg q
 refine Ret.fin ?_
 refine Zc func144 rfl ntmps144 (congrArg Array.toList results144) (by simp) ?_
 simp only [go_sem]
 refine Za zs [1, 2] fun K hK => ?_
 try simp only [go_sem, seval, Zq, Zr, bys]
 apply hK; clear hK K
 refine Za zs [4] fun K hK => ?_
 try simp only [go_sem, seval]
 refine Zg func141 rfl rfl rfl ((Ve row q.frm _ _)) ?_
 try simp only [go_sem, seval, List.length_map]
 refine Zv func141 rfl rfl rfl (fun _ => (Ve row q.to _ _)) ?_
 try simp only [go_sem, seval]
 repeat refine peel ?_
 apply hK; clear hK K
 refine Ze ?_
 try simp only [go_sem, seval]
 refine ⟨_, rfl, fun k hk => by (repeat rw [if_neg (by omega)]), XI ?_⟩
 unfold asksB
 have e1 : ((q.to.length : Int) == 0) = decide (q.to.length = 0) := by rw [Bool.eq_iff_iff, beq_iff_eq, decide_eq_true_eq]; omega
 rw [e1]
 cases decide (0 ≤ Lib.compareBytes row q.frm) <;> cases decide (q.to.length = 0) <;> simp
set_option maxHeartbeats 1600000 in
theorem c_query_fits (fs : List Fml) (hfs : fs.length ≤ 1048576) (q : QryE) (hq : q.fams.length ≤ 1048576) (H : Heap) (n : Nat) : Ret prog 109 [Zu fs, Zq q] H n (.bool (UV fs.length q)) H n := by
 have hszs : (Zu fs).sz = 1 := rfl
 have hsz : (Zq q).sz = 10 := Yg q
 have f1 : (n = n + 1) = False := by simp
 have f2 : (n + 1 = n) = False := by simp
 refine Ret.fin ?_
 refine Zc func109 rfl ntmps109 (congrArg Array.toList results109) (by simp) ?_
 simp only [go_sem]
 refine Za zs [2, 3] fun K hK => ?_
 try simp only [go_sem, seval, Zq, Zr, bys]
 apply hK; clear hK K
 refine Zb fun K1 hK1 => ?_
 refine Za zs [2, 3, 30] fun K hK => ?_
 try simp only [go_sem, seval, List.length_map]
 repeat refine peel ?_
 refine Zv func141 rfl rfl rfl (fun _ => (Ve q.to q.frm _ _)) ?_
 try simp only [go_sem, seval]
 repeat refine peel ?_
 apply hK; clear hK K
 refine Zf ?_ ?_ <;> intro hb
 ·skip
  have h1 : fits1 q = true := by unfold fits1; simp only [Int.natCast_pos] at hb; grind
  have hf : UV fs.length q = false := by unfold UV; rw [h1]; rfl
  refine Za zs [4] fun K hK => ?_
  try simp only [go_sem, seval]
  apply hK; clear hK K
  refine Ze ?_
  try simp only [go_sem, seval]
  first
  | exact ⟨_, rfl, fun k hk => by (try simp only [Heap.put_get]); (repeat rw [if_neg (by omega)]), XI hf.symm⟩
  | (refine ⟨_, rfl, fun k hk => by (try simp only [Heap.put_get]); (repeat rw [if_neg (by omega)]), XI ?_⟩
     have hfu : VW fs.length q.fams = true := by unfold VW; rw [List.all_eq_true]; intro j hj; rw [hno j (by have := List.mem_range.1 hj; omega)]; rfl
     unfold UV fits3
     rw [h1, hfu]
     have e1 : decide ((q.pre.length : Int) ≤ 256) = decide (q.pre.length ≤ 256) := decide_eq_decide.2 (by omega)
     rw [e1]
     simp only [Bool.cond_false_right, Bool.not_false, Bool.true_and])
 have h1 : fits1 q = false := by unfold fits1; simp only [Int.natCast_pos] at hb; grind
 refine Zd ?_
 try simp only [go_sem, seval]
 apply hK1
 clear hK1 K1
 refine Zb fun K2 hK2 => ?_
 refine Za zs [2, 3, 32, 33, 34] fun K hK => ?_
 try simp only [go_sem, seval, List.length_map]
 apply hK; clear hK K
 refine Zk ?_
 refine Zy (fun T' H' n' => ∃ i : Nat, i ≤ q.fams.length ∧ (∀ j, j < i → fbad fs.length q.fams j = false) ∧ T' = tl [(2, .loc n 0 0 0 []), (3, .loc (n + 1) 0 0 0 []), (32, Zr q.fams), (33, .int .i64 q.fams.length), (34, .int .i64 i)] ∧ H' = (H.put n (some (.arr 0 1 [Zu fs]))).put (n + 1) (some (.arr 0 10 [Zq q])) ∧ n' = n + 2) (fun T' _ _ => q.fams.length - iv (T' 34)) ?_ ?_
 ·skip
  exact ⟨0, Nat.zero_le _, fun j hj => absurd hj (Nat.not_lt_zero _), by simp [Zr], by simp [Zu, Zq, Zr, bys], rfl⟩
 intro T1 H1 n1
 rintro ⟨i, hi, hno, rfl, rfl, rfl⟩
 refine Za zs [2, 3, 32, 33, 34, 35] fun K hK => ?_
 try simp only [go_sem, seval, Zu, Zq, Zr, bys]
 apply hK; clear hK K
 refine Zb fun K3 hK3 => ?_
 refine Zf ?_ ?_ <;> intro hb
 ·skip
  have hlt : i < q.fams.length := by have := of_decide_eq_true hb; omega
  have hnth : nth (q.fams.map fun n => AV.int .i64 n) i = AV.int .i64 (q.fams.getD i 0) := ZG (fun n => AV.int .i64 n) q.fams _ hlt
  have hnth2 : nth (q.fams.map fun n => AV.int .i64 n) ((i : Int) - 1).toNat = AV.int .i64 (q.fams.getD (i - 1) 0) := by rw [show ((i : Int) - 1).toNat = i - 1 by omega]; exact ZG (fun n => AV.int .i64 n) q.fams _ (by omega)
  have hx : IntKind.i64.wrap ((i : Int) + 1) = ((i + 1 : Nat) : Int) := w1 (by omega)
  have hx2 : IntKind.i64.wrap ((i : Int) - 1) = (i : Int) - 1 := w64 (by omega) (by omega)
  refine Zd ?_
  try simp only [go_sem, seval, Zu, Zq, Zr, bys]
  apply hK3
  clear hK3 K3
  refine Zb fun K4 hK4 => ?_
  refine Zk ?_
  refine Za zs [2, 3, 5, 6, 32, 33, 34] fun K hK => ?_
  try simp only [go_sem, seval, Zu, Zq, Zr, bys, List.length_map, hnth, Int.toNat_natCast]
  repeat refine peel ?_
  apply hK; clear hK K
  refine Za zs [2, 3, 32, 33, 34, 61] fun K hK => ?_
  try simp only [go_sem, seval, Zu, Zq, Zr, bys, List.length_map, f1, hnth2, hx2]
  repeat (first | refine peel ?_ | refine ⟨by (intro hx9; rcases Nat.eq_zero_or_pos i with q9 | q9; (rw [show decide ((0 : Int) < (i : Int)) = false from decide_eq_false (by omega)] at hx9; simp at hx9); first | exact ⟨by omega, by omega⟩ | omega), ?_⟩)
  apply hK; clear hK K
  refine Zf ?_ ?_ <;> intro hb
  ·skip
   have hf1 : fbad fs.length q.fams i = true := by unfold fbad; simp only [Int.natCast_pos] at hb; grind
   have hf : UV fs.length q = false := by
     have : VW fs.length q.fams = false := by unfold VW; rw [List.all_eq_false]; exact ⟨i, List.mem_range.2 hlt, by rw [hf1]; simp⟩
     unfold UV; rw [this]; simp
   refine Za zs [4] fun K hK => ?_
   try simp only [go_sem, seval, Zu, Zq, Zr, bys]
   apply hK; clear hK K
   refine Ze ?_
   try simp only [go_sem, seval, Zu, Zq, Zr, bys]
   first
   | exact ⟨_, rfl, fun k hk => by (try simp only [Heap.put_get]); (repeat rw [if_neg (by omega)]), XI hf.symm⟩
   | (refine ⟨_, rfl, fun k hk => by (try simp only [Heap.put_get]); (repeat rw [if_neg (by omega)]), XI ?_⟩
      have hfu : VW fs.length q.fams = true := by unfold VW; rw [List.all_eq_true]; intro j hj; rw [hno j (by have := List.mem_range.1 hj; omega)]; rfl
      unfold UV fits3
      rw [h1, hfu]
      have e1 : decide ((q.pre.length : Int) ≤ 256) = decide (q.pre.length ≤ 256) := decide_eq_decide.2 (by omega)
      rw [e1]
      simp only [Bool.cond_false_right, Bool.not_false, Bool.true_and])
  have hf1 : fbad fs.length q.fams i = false := by unfold fbad; simp only [Int.natCast_pos] at hb; grind
  refine Zd ?_
  try simp only [go_sem, seval, Zu, Zq, Zr, bys]
  apply hK4
  clear hK4 K4
  refine Zl zs [2, 3, 32, 33, 34] fun K hK => ?_
  try simp only [go_sem, seval, Zu, Zq, Zr, bys, hx]
  apply hK; clear hK K
  try simp only [go_sem, seval, Zu, Zq, Zr, bys]
  exact ⟨⟨i + 1, by omega, fun j hj => by rcases Nat.lt_or_ge j i with q9 | q9; exact hno j q9; (obtain rfl : j = i := by omega); exact hf1, by simp [Zr]⟩, by omega⟩
 have hge : i = q.fams.length := by have := of_decide_eq_false hb; omega
 refine Zz ?_
 try simp only [go_sem, seval, Zu, Zq, Zr, bys]
 apply hK2
 refine Za zs [4] fun K hK => ?_
 try simp only [go_sem, seval, List.length_map]
 repeat refine peel ?_
 apply hK; clear hK K
 refine Ze ?_
 try simp only [go_sem, seval]
 first
 | exact ⟨_, rfl, fun k hk => by (try simp only [Heap.put_get]); (repeat rw [if_neg (by omega)]), XI hf.symm⟩
 | (refine ⟨_, rfl, fun k hk => by (try simp only [Heap.put_get]); (repeat rw [if_neg (by omega)]), XI ?_⟩
    have hfu : VW fs.length q.fams = true := by unfold VW; rw [List.all_eq_true]; intro j hj; rw [hno j (by have := List.mem_range.1 hj; omega)]; rfl
    unfold UV fits3
    rw [h1, hfu]
    have e1 : decide ((q.pre.length : Int) ≤ 256) = decide (q.pre.length ≤ 256) := decide_eq_decide.2 (by omega)
    rw [e1]
    simp only [Bool.cond_false_right, Bool.not_false, Bool.true_and])
theorem and15i (x : Int) : 0 ≤ intBits .and .u8 x 15 ∧ intBits .and .u8 x 15 < 16 := by
 have h : intBits .and .u8 x 15 = (((BitVec.ofInt 8 x) &&& 15#8).toNat : Int) := by
   show IntKind.u8.wrap (((BitVec.ofInt 8 x) &&& (BitVec.ofInt 8 15)).toNat : Int) = _
   rw [IntKind.wrap_u8, show BitVec.ofInt 8 15 = 15#8 by decide]
   have := ((BitVec.ofInt 8 x) &&& 15#8).isLt
   omega
 have h2 : ((BitVec.ofInt 8 x) &&& 15#8).toNat ≤ 15 := by rw [BitVec.toNat_and]; exact Nat.and_le_right
 omega
def tabQ (i : Int) : Int := UI.getD i.toNat 0
theorem nth_tab (x : Int) : nth Ul (intBits .and .u8 x 15).toNat = .int .u32 (tabQ (intBits .and .u8 x 15)) := by
 have h := and15i x
 unfold tabQ Ul
 exact ZG (fun n => AV.int .u32 n) UI _ (by rw [show UI.length = 16 from rfl]; omega)
def sumS (c : Int) (b : UInt8) : Int :=
 let c1 := intBits .xor .u32 (c.fdiv (2 ^ min 4 32)) (tabQ (intBits .and .u8 (intBits .xor .u8 (IntKind.u8.wrap c) b.toNat) 15))
 intBits .xor .u32 (c1.fdiv (2 ^ min 4 32)) (tabQ (intBits .and .u8 (intBits .xor .u8 (IntKind.u8.wrap c1) ((b.toNat : Int).fdiv (2 ^ min 4 8))) 15))
def sumP (c : Int) (b : List UInt8) : Int := b.foldl sumS c
def sumF (parts : List (List UInt8)) : Int := intBits .xor .u32 4294967295 (parts.foldl sumP 4294967295)
def lowB (v : Int) : List UInt8 := [ZU v, ZU (v / 256), ZU (v / 65536), ZU (v / 16777216)]
theorem VE (parts : List (List UInt8)) (hp : parts.length ≤ 1048576) (hbs : ∀ b ∈ parts, b.length ≤ 1099511627776) {H : Heap} {n : Nat} (hG : GOK 0 2 H n) : Ret prog 165 [.sl 1 (parts.map bys)] H n (.int .u32 (sumF parts)) H n := by
 have hT := hG.table
 refine Zc func165 rfl ntmps165 (congrArg Array.toList results165) (by simp) ?_
 simp only [go_sem]
 refine Za zs [0] fun K hK => ?_
 try simp only [go_sem, seval]
 apply hK; clear hK K
 refine Za zs [0, 3] fun K hK => ?_
 try simp only [go_sem, seval]
 apply hK; clear hK K
 refine Zb fun K1 hK1 => ?_
 refine Za zs [3, 8, 9, 10] fun K hK => ?_
 try simp only [go_sem, seval, List.length_map]
 apply hK; clear hK K
 refine Zk ?_
 refine Zy (fun T' H' n' => ∃ i : Nat, i ≤ parts.length ∧ T' = tl [(3, .int .u32 ((parts.take i).foldl sumP 4294967295)), (8, .sl 1 (parts.map bys)), (9, .int .i64 parts.length), (10, .int .i64 i)] ∧ H = H' ∧ n = n') (fun T' _ _ => parts.length - iv (T' 10)) ?_ ?_
 ·skip
  exact ⟨0, Nat.zero_le _, rfl, rfl, rfl⟩
 intro T1 H1 n1
 rintro ⟨i, hi, rfl, rfl, rfl⟩
 refine Za zs [3, 8, 9, 10, 11] fun K hK => ?_
 try simp only [go_sem, seval]
 apply hK; clear hK K
 refine Zb fun K2 hK2 => ?_
 refine Zf ?_ ?_ <;> intro hb
 ·skip
  have hlt : i < parts.length := by have := of_decide_eq_true hb; omega
  have hnth : nth (parts.map bys) i = bys (parts.getD i []) := ZG bys parts _ hlt
  have hx : IntKind.i64.wrap ((i : Int) + 1) = ((i + 1 : Nat) : Int) := w1 (by omega)
  have hm : parts.getD i [] ∈ parts := by rw [show parts.getD i [] = parts[i] by simp [List.getD, hlt]]; exact List.getElem_mem hlt
  obtain ⟨b, hbd⟩ : ∃ b, b = parts.getD i [] := ⟨_, rfl⟩
  rw [← hbd] at hnth hm
  have hbl := hbs b hm
  refine Zd ?_
  try simp only [go_sem, seval]
  apply hK2
  clear hK2 K2
  refine Zb fun K3 hK3 => ?_
  refine Zk ?_
  refine Za zs [3, 5, 8, 9, 10] fun K hK => ?_
  try simp only [go_sem, seval, List.length_map, hnth, Int.toNat_natCast]
  repeat refine peel ?_
  apply hK; clear hK K
  refine Za zs [3, 8, 9, 10, 14, 15, 16] fun K hK => ?_
  try simp only [go_sem, seval, List.length_map]
  apply hK; clear hK K
  refine Zk ?_
  refine Zy (fun T' H' n' => ∃ j : Nat, j ≤ b.length ∧ T' = tl [(3, .int .u32 (sumP ((parts.take i).foldl sumP 4294967295) (b.take j))), (8, .sl 1 (parts.map bys)), (9, .int .i64 parts.length), (10, .int .i64 i), (14, bys b), (15, .int .i64 b.length), (16, .int .i64 j)] ∧ H = H' ∧ n = n') (fun T' _ _ => b.length - iv (T' 16)) ?_ ?_
  ·skip
   exact ⟨0, Nat.zero_le _, rfl, rfl, rfl⟩
  intro T1 H1 n1
  rintro ⟨j, hj, rfl, rfl, rfl⟩
  refine Za zs [3, 8, 9, 10, 14, 15, 16, 17] fun K hK => ?_
  try simp only [go_sem, seval]
  apply hK; clear hK K
  refine Zb fun K4 hK4 => ?_
  refine Zf ?_ ?_ <;> intro hb
  ·skip
   have hltj : j < b.length := by have := of_decide_eq_true hb; omega
   have hntj : nth (b.map Zo) j = Zo (b.getD j 0) := ZG Zo b _ hltj
   have hxj : IntKind.i64.wrap ((j : Int) + 1) = ((j + 1 : Nat) : Int) := w1 (by omega)
   have hst : sumP ((parts.take i).foldl sumP 4294967295) (b.take (j + 1)) = sumS (sumP ((parts.take i).foldl sumP 4294967295) (b.take j)) (b.getD j 0) := by unfold sumP; rw [List.take_succ_eq_append_getElem hltj, List.foldl_append]; simp [List.getD, hltj]
   generalize hcc : sumP ((parts.take i).foldl sumP 4294967295) (b.take j) = c at hst
   refine Zd ?_
   try simp only [go_sem, seval]
   apply hK4
   clear hK4 K4
   refine Zb fun K5 hK5 => ?_
   refine Zk ?_
   refine Za zs [3, 7, 8, 9, 10, 14, 15, 16] fun K hK => ?_
   try simp only [go_sem, seval, List.length_map, hntj, Int.toNat_natCast]
   repeat refine peel ?_
   apply hK; clear hK K
   refine Za zs [3, 7, 8, 9, 10, 14, 15, 16] fun K hK => ?_
   try simp only [go_sem, seval, hT, nth_tab]
   repeat (first | refine peel ?_ | refine ⟨by exact ⟨(and15i _).1, (and15i _).2, rfl⟩, ?_⟩)
   apply hK; clear hK K
   refine Zl zs [3, 8, 9, 10, 14, 15, 16] fun K hK => ?_
   try simp only [go_sem, seval, hT, nth_tab]
   repeat (first | refine peel ?_ | refine ⟨by exact ⟨(and15i _).1, (and15i _).2, rfl⟩, ?_⟩)
   apply hK; clear hK K
   try simp only [go_sem, seval]
   apply hK5
   clear hK5 K5
   refine Zl zs [3, 8, 9, 10, 14, 15, 16] fun K hK => ?_
   try simp only [go_sem, seval]
   apply hK; clear hK K
   try simp only [go_sem, seval]
   refine ⟨⟨j + 1, by omega, ?_⟩, by rw [hxj]; omega⟩
   rw [hxj]
   rw [hst]; rfl
  refine Zz ?_
  try simp only [go_sem, seval]
  apply hK3
  refine Zl zs [3, 8, 9, 10] fun K hK => ?_
  try simp only [go_sem, seval]
  apply hK; clear hK K
  try simp only [go_sem, seval]
  have hgj : b.length ≤ j := by have := of_decide_eq_false hb; omega
  refine ⟨⟨i + 1, by omega, ?_⟩, by rw [hx]; omega⟩
  rw [hx, List.take_of_length_le hgj, List.take_succ_eq_append_getElem hlt, List.foldl_append, hbd]
  simp [List.getD, hlt]
 have hge : i = parts.length := by have := of_decide_eq_false hb; omega
 refine Zz ?_
 try simp only [go_sem, seval]
 apply hK1
 refine Za zs [2] fun K hK => ?_
 try simp only [go_sem, seval]
 apply hK; clear hK K
 refine Ze ?_
 try simp only [go_sem, seval]
 rw [hge, List.take_length]; rfl
theorem fdiv8 (v : Int) : v.fdiv (2 ^ min 8 32) = v / 256 := by rw [show (2 : Int) ^ min 8 32 = 256 by decide, Int.fdiv_eq_ediv_of_nonneg _ (by decide)]
theorem fdiv16 (v : Int) : v.fdiv (2 ^ min 16 32) = v / 65536 := by rw [show (2 : Int) ^ min 16 32 = 65536 by decide, Int.fdiv_eq_ediv_of_nonneg _ (by decide)]
theorem fdiv24 (v : Int) : v.fdiv (2 ^ min 24 32) = v / 16777216 := by rw [show (2 : Int) ^ min 24 32 = 16777216 by decide, Int.fdiv_eq_ediv_of_nonneg _ (by decide)]
theorem c_wire_low0 (v : Int) (H : Heap) (n : Nat) : Ret prog 189 [.nilsl, .int .u32 v] H n (bys (lowB v)) H n := by
 refine Ret.fin ?_
 refine Zc func189 rfl ntmps189 (congrArg Array.toList results189) (by simp) ?_
 simp only [go_sem]
 refine Za zs [0, 1] fun K hK => ?_
 try simp only [go_sem, seval]
 apply hK; clear hK K
 refine Yy 0 1 rfl ?_
 simp only [go_sem, seval]
 refine Za zs [4] fun K hK => ?_
 try simp only [go_sem, seval, fdiv8, fdiv16, fdiv24, Y0]
 repeat (first | refine peel ?_ | refine ⟨by exact ⟨rfl, by simp [Zo, AV.sz, AV.memOK]⟩, ?_⟩)
 apply hK; clear hK K
 refine Ze ?_
 try simp only [go_sem, seval]
 exact ⟨_, rfl, fun k hk => by rw [if_neg (by omega)], .osl (Heap.put_same _ _ _) (Nat.le_refl _) (by simp) (YE _ (ZH (lowB v) _))⟩
theorem o_wire_low (v : Int) (b : List UInt8) (hb : b.length ≤ 1099511627776) (k ver : Nat) {H : Heap} {n : Nat} (hk : H k = some (.arr ver 1 (b.map Zo))) : Ret prog 189 [.osl k ver 0 b.length, .int .u32 v] H n (.osl k (ver + 1) 0 (b ++ lowB v).length) (H.put k (some (.arr (ver + 1) 1 ((b ++ lowB v).map Zo)))) n := by
 have e1 : List.take b.length (List.map Zo b) = List.map Zo b := List.take_of_length_le (by simp)
 refine Zc func189 rfl ntmps189 (congrArg Array.toList results189) (by simp) ?_
 simp only [go_sem]
 refine Za zs [0, 1] fun K hK => ?_
 try simp only [go_sem, seval]
 apply hK; clear hK K
 refine Za zs [4] fun K hK => ?_
 try simp only [go_sem, seval, hk, e1, List.length_map, fdiv8, fdiv16, fdiv24, Y0]
 repeat (first | refine peel ?_ | (refine And.intro ?_ ?_; · first | exact ⟨rfl, by simp [Zo, AV.sz, AV.memOK]⟩ | exact ⟨by omega, .inr trivial, by omega, by omega⟩))
 apply hK; clear hK K
 refine Ze ?_
 try simp only [go_sem, seval]
 refine ⟨by simp [lowB], by rw [List.map_append]; rfl⟩
theorem c_wire_is (b : List UInt8) (p : Nat) (v : Int) (hp : p + 4 ≤ b.length) (hb : b.length ≤ 1099511627776) (H : Heap) (n : Nat) : Ret prog 164 [bys b, .int .i64 p, .int .u32 v] H n (.bool ((b.drop p).take 4 == lowB v)) H n := by
 have e1 : IntKind.i64.wrap ((p : Int) + 4) = ((p + 4 : Nat) : Int) := by rw [w64 (by omega) (by omega)]; omega
 have e2 : List.drop p (List.take (p + 4) (b.map Zo)) = ((b.drop p).take 4).map Zo := by rw [List.take_add, List.drop_append_of_le_length (by simp; omega), List.drop_take_self, List.nil_append, ← List.map_drop, ← List.map_take]
 refine Zc func164 rfl ntmps164 (congrArg Array.toList results164) (by simp) ?_
 simp only [go_sem]
 refine Za zs [0, 1, 2] fun K hK => ?_
 try simp only [go_sem, seval]
 apply hK; clear hK K
 refine YF rfl zs [6] [.m, .m, .m, .q, .q, .m, .c, .c, .q] (by kernel_rfl) (fun _ _ _ _ _ h => h) fun K hK => ?_
 try simp only [go_sem, seval, e1, e2, List.length_map, Option.getD_some, Int.toNat_natCast]
 repeat (first | refine peel ?_ | refine ⟨by exact ⟨by omega, by omega, by omega, fun m h => h.elim⟩, ?_⟩)
 refine ZL func189 rfl rfl rfl (fun _ n => (c_wire_low0 v _ _)) ?_
 try simp only [go_sem, seval]
 refine ZL func77 rfl rfl rfl (fun _ n => (Yi ((b.drop p).take 4) (lowB v) _ _)) ?_
 try simp only [go_sem, seval]
 apply hK; clear hK K
 refine Ze ?_
 try simp only [go_sem, seval]
end Go.Proofs.YtifnhpmeoogedaaGreatDoor