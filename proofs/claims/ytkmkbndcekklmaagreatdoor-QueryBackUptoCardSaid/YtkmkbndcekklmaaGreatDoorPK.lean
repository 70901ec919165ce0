/- Own layer: walks through the document's token and its check of a question. Of the program; no condition. -/
import Derived.Test.YtkmkbndcekklmaaGreatDoorPJ
import Derived.Test.YtkmkbndcekklmaaGreatDoorPF
import Derived.Test.YtkmkbndcekklmaaGreatDoorPI
set_option linter.unusedSimpArgs false
set_option linter.unusedVariables false
set_option maxRecDepth 10000
namespace Go.Proofs.YtkmkbndcekklmaaGreatDoor
open Go Go.Sx Go.Rt Go.Proofs Tryz
theorem NHl0.eqs {P Q : Prop} (g : Imp P Q := by (try simp only [go_sem, seval, hsz, hag, hmo, f1, f2, f3, f4, g1, r1, r2, Yi, ZY, List.length_map]); exact N9) : Imp P Q := g
theorem NHl0.sd {P : Prop} (g : P := by first | exact ⟨Nat.le_refl _, Nat.le_refl _, .inr trivial, om, om⟩ | exact ⟨rfl, by (simp [AV.sz, AV.memOK]; first | done | fail)⟩ | fail) : P := g
open NHl0 NZ in
theorem c_ref13_token (q : QryE) (hq : q.fine) (time : Int) (row : List UInt8) (hr : row.length ≤ 256) (H : Heap) (n : Nat) : Ret prog 91 [Zf q, .int .i64 time, bys row] H n (bys (tokB q time row)) H n := by
 have hsz : (Zf q).sz = 10 := Z5 q
 have hag : (Zf q).isAgg = true := rfl
 have hmo : (Zf q).memOK = true := rfl
 have r1 := hsz
 have r2 := hsz
 have g1 := hsz
 have hy := Zl (v := row.length) om
 have hz : (Zk row).length = (Zh row.length).length + row.length := by simp [Zk]
 have hy2 := Zl (Z4 time)
 have hy3 := Zl (Z4 (sumF [YE q]))
 have f1 : (n = n + 1) = False := osi
 have f2 : (n + 1 = n) = False := osi
 have f3 : (n + 1 = n + 2) = False := osi
 have f4 : (n = n + 2) = False := osi
 refine Ret.fin ?_
 refine fw func91 ntmps91 results91 ?_
 refine rg zs [1, 2, 3] ?_
 refine rc zs [2, 3, 7] func125 ((Xp (u64 time) (Z4 _) _ _)) ?_
 refine rk zs [3, 7] fun K V => ?_
 refine ck func126 ((Wm row om _ _)) ?_
 refine kas ?_
 refine ZU (fun H' n' => H' n = some (.arr 0 10 [Zf q]) ∧ H' (n + 1) = some (.arr ((Zh (u64 time)).length + 1) 1 ((Zh (u64 time) ++ Zk row).map Zd)) ∧ (∀ k, k < n → H' k = H k) ∧ n + 3 ≤ n') ⟨by (try simp only [N7]); simp, by rw [N8, List.map_append], fun k hk => oh, om⟩ fun H1 m ⟨r1, r2, hl1, hm⟩ => ?_
 refine kbS ?_
 have g1 : (n + 1 = m) = False := oz
 have hbl : (Zh (u64 time) ++ Zk row).length ≤ 300 := by rw [List.length_append]; omega
 have e9 : List.take (Zh (u64 time) ++ Zk row).length (List.map Zd (Zh (u64 time) ++ Zk row)) = List.map Zd (Zh (u64 time) ++ Zk row) := Yi _
 refine rk zs [7, 8] fun K V => ?_
 refine ck func128 ((c_ref13_form q hq.frm hq.to hq.fams hq.pre hq.whr _ _)) ?_
 refine ck func127 ((ND [YE q] osi (fun x hx => by rw [List.mem_singleton.1 hx]; have := formB_len hq; omega) _ _)) ?_
 refine kas ?_
 refine Ze zs [7] fun K V => ?_
 try simp only [go_sem, seval, hsz, hag, hmo, f1, f2, f3, f4, g1, r1, r2, Yi, ZY, List.length_map, e9]
 repeat refine peel ?_
 refine Zt func125 rfl rfl rfl ((Xp (u64 (sumF [YE q])) (Z4 _) _ _)) ?_
 try simp only [go_sem, seval, hsz, hag, hmo, f1, f2, f3, f4, g1, r1, r2, Yi, ZY, List.length_map, e9]
 repeat (first | (refine And.intro ?_ ?_; · first | exact ⟨Nat.le_refl _, Nat.le_refl _, .inr trivial, om, om⟩) | refine peel ?_)
 refine kas ?_
 refine rk zs [9] fun K V => ?_
 rw [← List.length_append, ← List.map_append]
 refine Zt func129 rfl rfl rfl (Ret.frzK (args := [.osl (n + 1) ((Zh (u64 time)).length + 2) 0 (Zh (u64 time) ++ Zk row ++ Zh (u64 (sumF [YE q]))).length]) (args' := [bys (Zh (u64 time) ++ Zk row ++ Zh (u64 (sumF [YE q])))]) (n + 1) (N8 _ _ _) ⟨fz_bys _, trivial⟩ (c_ref1_Frame (Zh (u64 time) ++ Zk row ++ Zh (u64 (sumF [YE q]))) (by rw [List.length_append]; omega) _ _)) ?_
 refine nz ?_
 refine kas ?_
 refine rg zs [6] ?_
 refine ar ?_
 exact ⟨_, rfl, fun k hk => ohx (hl1 k hk), .kl (ZZ (tokB q time row) _)⟩
theorem head_num {n : Nat} (h : n < 4294967296) : numB 0 (Yq n) = n := by
 have hb : ∀ x : Nat, (Z0 (x : Int)).toNat = x % 256 := fun x => by rw [Li]; simp
 show 256 * (256 * (256 * (256 * 0 + (Z0 ((n : Int) / 16777216)).toNat) + (Z0 ((n : Int) / 65536)).toNat) + (Z0 ((n : Int) / 256)).toNat) + (Z0 (n : Int)).toNat = n
 rw [show (n : Int) / 16777216 = ((n / 16777216 : Nat) : Int) by omega, show (n : Int) / 65536 = ((n / 65536 : Nat) : Int) by omega, show (n : Int) / 256 = ((n / 256 : Nat) : Int) by omega, hb, hb, hb, hb]
 omega
theorem frame_end {b : List UInt8} (hb : b.length ≤ 1048576) (h : (rfQ (Z9 b)).2.2 = 0) : (rfQ (Z9 b)).2.1 = ((Z9 b).length : Int) := by
 have hl : (Z9 b).length = 12 + b.length := by unfold Z9; simp only [List.length_append]; show 4 + 4 + b.length + 4 = _; omega
 have hN : hd4 (Z9 b) = b.length := by
   rw [hd4_num om, List.drop_zero]
   have : (Z9 b).take 4 = Yq b.length := by unfold Z9; rw [List.append_assoc, List.append_assoc]; rfl
   rw [this, head_num om]
 unfold rfQ at h ⊢
 rw [hN] at h ⊢
 unfold rfN at h ⊢
 split at h
 ·exact absurd h odc
 split at h
 ·exact absurd h odc
 split at h
 ·exact absurd h odc
 split at h
 ·exact absurd h odc
 split at h
 ·exact absurd h odc
 rename_i h1 h2 h3 h4 h5
 rw [if_neg h1, if_neg h2, if_neg h3, if_neg h4, if_neg h5, hl]
 simp only; omega
def M6 (q : QryE) : AV := .agg [.bool (decide (q.token.length ≠ 0 ∧ (ZN q).2.2 = 0)), .int .i64 (ZN q).1, bys (ZN q).2.1]
theorem NHl1.eqs {P Q : Prop} (g : Imp P Q := by (try simp only [go_sem, seval, hsz, hag, hmo, f1, f2, ruAV, rbAV, Zf, Zq, bys, List.length_map, ZY, hx]); exact N9) : Imp P Q := g
set_option maxHeartbeats 3200000 in
open NHl1 NY in
theorem QF (q : QryE) (hq : q.fine) (ht : -9223372036854775808 ≤ q.time ∧ q.time < 9223372036854775808) (H : Heap) (n : Nat) : Ret prog 60 [Zf q] H n (.tup [M6 q, .int .i64 (ZN q).2.2]) H n := by
 have hsz : (Zf q).sz = 10 := Z5 q
 have hag : (Zf q).isAgg = true := rfl
 have hmo : (Zf q).memOK = true := rfl
 have hTu : ∀ v : Nat, v ≤ 1099511627776 → (v ≠ u64 q.time ↔ (v : Int) ≠ q.time) := fun v hv => by
   unfold u64
   constructor
   ·intro h e; exact h (by rw [← e]; omega)
   ·intro h e; exact h om
 unfold M6
 obtain ⟨z, hz⟩ : ∃ z, z = ZN q := ⟨_, rfl⟩
 rw [← hz]
 unfold ZN at hz
 have hfl := rfQ_len q.token
 have htl := hq.token
 have hend : ∀ u row, (rfQ q.token).2.2 = 0 → row.length ≤ 256 → (tokB q u row == q.token) = true → (rfQ q.token).2.1 = (q.token.length : Int) := fun u row h0 hr he => by
   have e : tokB q u row = q.token := by simpa using he
   have h1 := Zl (Z4 u)
   have h2 := Zl (v := row.length) om
   have h3 := Zl (Z4 (sumF [YE q]))
   rw [← e] at h0 ⊢
   exact frame_end (by simp only [List.length_append, Zk]; omega) h0
 obtain ⟨fr, hfr⟩ : ∃ f, f = rfQ q.token := ⟨_, rfl⟩
 rw [← hfr] at hz hfl hend
 obtain ⟨hu1, hu2, hu3⟩ := ruB_lt fr.1 0
 obtain ⟨u, hu⟩ : ∃ u, u = ruB fr.1 0 := ⟨_, rfl⟩
 rw [← hu] at hz hu1 hu2 hu3
 have hbm := ML fr.1 u.2.1 256
 obtain ⟨rb, hrb⟩ : ∃ b, b = rbB fr.1 u.2.1 256 := ⟨_, rfl⟩
 rw [← hrb] at hz hbm
 have hx := hsz
 have hxT : u.1 ≤ 1099511627776 → IntKind.i64.wrap (u.1 : Int) = (u.1 : Int) := fun h => w64 om om
 have f1 : (n = n + 1) = False := osi
 have f2 : (n + 1 = n) = False := osi
 refine Ret.fin ?_
 refine fw func60 ntmps60 results60 ?_
 refine rg zs [1, 2] ?_
 refine Za fun K1 hK1 => ?_
 refine rg zs [1, 2, 14] ?_
 refine Zb ?_ ?_ <;> intro hb
 ·have h0 : q.token.length = 0 := by have h9 := hb; simp at h9; simp [h9]
  rw [if_pos h0] at hz
  have hzz : z = (0, [], 0) := hz
  exact kaE
 have h0 : ¬ q.token.length = 0 := by have h9 := hb; simp at h9; simp [h9]
 rw [if_neg h0] at hz
 refine kay ?_
 refine rk zs [1, 2, 4, 5, 6] fun K V => ?_
 refine ck func97 ((hfr ▸ Lc q.token om _ _)) ?_
 refine kas ?_
 refine Za fun K2 hK2 => ?_
 refine rg zs [1, 2, 4, 31] ?_
 refine Zb ?_ ?_ <;> intro hb
 ·have hc1 : fr.2.2 ≠ 0 ∨ fr.2.1 ≠ (q.token.length : Int) := by by_cases h : fr.2.2 = 0; (right; rw [h] at hb; simpa using hb); exact .inl h
  have hzz : z = (0, [], 132) := by
    rw [hz]
    split; rfl; split; rfl; split; rfl
    rename_i a1 a2 a3
    exfalso
    have a1 : fr.2.2 = 0 := by simpa using a1
    refine hc1.elim (fun h => h a1) (fun h => h (hend (u.1 : Int) rb.1 a1 (by simpa using hbm) ?_))
    cases e : (tokB q (u.1 : Int) rb.1 == q.token) with
    | true => rfl
    | false => exact absurd (.inr (.inr (.inr e))) a3
  exact kaE
 have hc1 : fr.2.2 = 0 := by by_cases h : fr.2.2 = 0; exact h; (rw [show (fr.2.2 != 0) = true by simpa using h] at hb; cases hb)
 rw [if_neg (by simp [hc1])] at hz
 refine kaQ ?_
 refine rk zs [1, 2, 4, 6, 7, 8] fun K V => ?_
 refine ck func98 ((hu ▸ Qb fr.1 0 om om _ _)) ?_
 refine kas ?_
 refine Za fun K3 hK3 => ?_
 refine rg zs [1, 2, 4, 7, 8, 60] ?_
 refine Zb ?_ ?_ <;> intro hb
 ·have hc : u.2.2 ≠ 0 ∨ u.1 < 1 ∨ 1099511627776 < u.1 ∨ (q.time ≠ 0 ∧ u.1 ≠ u64 q.time) := by
    by_cases c1 : u.2.2 = 0 <;> by_cases c2 : u.1 < 1 <;> by_cases c3 : 1099511627776 < u.1
    all_goals first | exact .inl c1 | exact .inr (.inl c2) | exact .inr (.inr (.inl c3)) | skip
    have := hxT om
    have c5 := hTu u.1 om
    simp [c1, this] at hb
    exact .inr (.inr (.inr ⟨om, c5.2 om⟩))
  have hzz : z = (0, [], 132) := by rw [hz, if_pos hc]
  refine rg zs [2, 3] ?_
  refine ar ?_
  rw [hzz]
  exact ⟨_, rfl, fun k hk => oh, .tup (.cons (.agg (.cons (XO (by simp [h0])) (.cons (.kl trivial) (.cons .nilsl .nil)))) (.cons (.kl trivial) .nil))⟩
 have hc : ¬ (u.2.2 ≠ 0 ∨ u.1 < 1 ∨ 1099511627776 < u.1 ∨ (q.time ≠ 0 ∧ u.1 ≠ u64 q.time)) := by
   rintro (c1 | c1 | c1 | ⟨c1, c2⟩)
   ·rw [show (u.2.2 != 0) = true by simpa using c1] at hb; simp at hb
   ·simp [show decide ((u.1 : Int) < 1) = true from decide_eq_true om] at hb
   ·exact kcO
   ·by_cases c3 : u.1 ≤ 1099511627776
    ·have c5 := (hTu u.1 c3).1 c2; simp [hxT c3, c1, c5] at hb
    ·exact kcO
 rw [if_neg hc] at hz
 have hx : IntKind.i64.wrap (u.1 : Int) = (u.1 : Int) := hxT om
 refine kba ?_
 refine rk zs [1, 2, 6, 7, 9] fun K V => ?_
 refine ck func99 ((hrb ▸ Ld fr.1 u.2.1 256 om om om _ _)) ?_
 refine kas ?_
 refine Za fun K4 hK4 => ?_
 refine dx zs [2, 7, 9, 92] [.m, .q, .m, .m, .q, .q, .q, .m, .q, .m, .c, .q, .q, .m, .q, .m, .q, .m, .c, .q, .q, .c, .q, .q] [0, 1, 2, 3, 4, 5, 6, 7, 8, 9, 10, 11, 12, 13, 14, 15, 16, 17, 18, 19, 20, 21, 22, 23] [0, 1, 2, 3, 4, 5, 6, 7, 8, 9, 10, 11, 12, 13, 14, 15, 16, 17, 18, 19, 20, 21, 22, 23] fun K V => ?_
 refine cq func89 (fun _ n => (NE q rb.1 _ _)) ?_
 refine cq func91 (fun _ n => (c_ref13_token q hq u.1 rb.1 hbm _ _)) ?_
 refine cq func46 (fun _ n => (Xu (tokB q u.1 rb.1) q.token _ _)) ?_
 refine kas ?_
 refine Zb ?_ ?_ <;> intro hb
 ·have hc2 : rb.2.2 ≠ 0 ∨ rb.1.length = 0 ∨ Y6 q rb.1 = false ∨ (tokB q u.1 rb.1 == q.token) = false := by grind
  have hzz : z = (0, [], 132) := by rw [hz, if_pos hc2]
  exact kaE
 have hc2 : ¬ (rb.2.2 ≠ 0 ∨ rb.1.length = 0 ∨ Y6 q rb.1 = false ∨ (tokB q u.1 rb.1 == q.token) = false) := by grind
 have hzz : z = (((u.1 : Nat) : Int), rb.1, 0) := by rw [hz, if_neg hc2]
 refine kb3 ?_
 refine rg zs [2, 3] ?_
 refine ar ?_
 rw [hzz]
 exact ⟨_, rfl, fun k hk => oh, .tup (.cons (.agg (.cons (XO (by simp [h0])) (.cons (.kl trivial) (.cons (.kl (WI _ _)) .nil)))) (.cons (.kl trivial) .nil))⟩
theorem fits_time {nf : Nat} {q : QryE} (h : Yl nf q = true) : 0 ≤ q.time ∧ q.time ≤ 1099511627776 := by
 unfold Yl VJ at h
 simp only [Bool.and_eq_true, decide_eq_true_eq] at h
 exact ⟨h.2.1.1.1.1.1.2, h.2.1.1.1.1.2⟩
theorem where_rel {fs : List Fml} (h : Zv fs = 0) (t : List UInt8) : ((0 ≤ (Qo fs t).2) ↔ (Y7 fs t).2.1 ≠ 0) ∧ (0 ≤ (Qo fs t).2 → (Y7 fs t).2.1 = 131) := by
 have hr := readR_rel fs t
 unfold Y7
 rw [if_neg (by simp [h])]
 cases hp : WB fs t with
 | ok x => rw [hp] at hr; rw [hr.1]; simp
 | error p => rw [hp] at hr; have hr : (Qo fs t).2 = p := hr; rw [hr]; simp
theorem NHl2.eqs {P Q : Prop} (g : Imp P Q := by (try simp only [go_sem, seval, hsz, hag, hmo, hszs, hags, hmos, f1, f2, hA, hB, Zi, Zf, Zq, bys, List.length_map, YU, YL, Yt, Yc]); exact N9) : Imp P Q := g
set_option maxHeartbeats 1600000 in
open NHl2 NY in
theorem Uj (fs : List Fml) (hfs : fs.length ≤ 1048576) (q : QryE) (hq : q.fine) (H : Heap) (n : Nat) : Ret prog 38 [Zi fs, Zf q] H n (.int .i64 (qcE fs q)) H n := by
 have hsz : (Zf q).sz = 10 := Z5 q
 have hag : (Zf q).isAgg = true := rfl
 have hmo : (Zf q).memOK = true := rfl
 have hszs : (Zi fs).sz = 1 := rfl
 have hags : (Zi fs).isAgg = true := rfl
 have hmos : (Zi fs).memOK = true := rfl
 have hms : (M6 q).sz = 3 := rfl
 obtain ⟨z, hz⟩ : ∃ z, z = qcE fs q := ⟨_, rfl⟩
 rw [← hz]
 unfold qcE at hz
 have f1 : (n = n + 1) = False := osi
 have f2 : (n + 1 = n) = False := osi
 have hA := hsz
 have hB := hsz
 refine Ret.fin ?_
 refine fw func38 ntmps38 results38 ?_
 refine rg zs [2, 3] ?_
 refine rc zs [2, 3, 5] func69 ((JJ fs _ _)) ?_
 refine ZV [2, 3, 5] (fun T' H' n' => ∃ e : Int, e = (if Zv fs ≠ 0 then Zv fs else if Yl fs.length q then 0 else 130) ∧ T' = tl [(2, .loc n 0 0 0 []), (3, .loc (n + 1) 0 0 0 []), (5, .int .i64 e)] ∧ H' n = some (.arr 0 1 [Zi fs]) ∧ H' (n + 1) = some (.arr 0 10 [Zf q]) ∧ (∀ k, k < n → H' k = H k) ∧ n' = n + 2) ?_ ?_
 ·refine rg zs [2, 3, 5, 11] ?_
  refine Zb ?_ ?_ <;> intro hb
  ·have hs0 : Zv fs = 0 := osb
   have he0 : ∀ a b : Int, (if Zv fs ≠ 0 then a else b) = b := fun a b => if_neg (by simp [hs0])
   refine rc1 zs [2, 3, 5] func70 ((NH fs hfs q hq.fams _ _)) ?_
   refine ns ?_
   exact ⟨_, (he0 _ _).symm, rfl, fun k hk => onn⟩
  have hs0 : Zv fs ≠ 0 := osb
  have he0 : ∀ a b : Int, (if Zv fs ≠ 0 then a else b) = a := fun a b => if_pos hs0
  refine ak ?_
  refine ns ?_
  exact ⟨_, (he0 _ _).symm, rfl, fun k hk => onn⟩
 rintro T1 H1 n1 ⟨e, he, rfl, hA, hB, hlow, rfl⟩
 refine Za fun K1 hK1 => ?_
 refine rg zs [2, 3, 5, 16] ?_
 refine Zb ?_ ?_ <;> intro hb
 ·have hz2 : z = e := by
    rw [hz, he]; rw [he] at hb
    by_cases h1 : Zv fs = 0
    ·rw [if_neg (by simp [h1])] at hb
     have h2 : Yl fs.length q = false := by cases h2 : Yl fs.length q; rfl; (rw [h2] at hb; simp at hb)
     rw [if_neg (by simp [h1]), if_pos h2, if_neg (by simp [h1]), if_neg (by simp [h2])]
    ·rw [if_pos h1, if_pos h1]
  refine rg zs [4] ?_
  refine ar ?_
  rw [← hz2]
  exact ⟨_, rfl, fun k hk => by (try simp only [N7]); (repeat first | rw [if_pos rfl] | rw [if_pos trivial] | rw [if_neg om]); first | done | exact hlow k hk, .kl trivial⟩
 have hs1 : Zv fs = 0 ∧ Yl fs.length q = true := by
   rw [he] at hb
   by_cases h1 : Zv fs = 0
   ·rw [if_neg (by simp [h1])] at hb; refine ⟨h1, ?_⟩; cases h2 : Yl fs.length q; (rw [h2] at hb; simp at hb); rfl
   ·rw [if_pos h1] at hb; simp at hb; exact absurd hb h1
 rw [if_neg (by simp [hs1.1]), if_neg (by simp [hs1.2])] at hz
 refine kay ?_
 refine Za fun K2 hK2 => ?_
 refine rg zs [2, 3, 20] ?_
 refine Zb ?_ ?_ <;> intro hb
 ·have hw0 : 0 < q.whr.length := by have h9 := hb; simp at h9; exact List.length_pos_iff.2 h9
  refine rc zs [3, 7] func71 ((c_ref13_read fs hfs q.whr _ _)) ?_
  refine rg zs [3, 29] ?_
  refine Zb ?_ ?_ <;> intro hb
  ·have hz2 : z = 131 := by have h9 := of_decide_eq_true hb; obtain ⟨w1, w2⟩ := where_rel hs1.1 q.whr; rw [hz, if_pos ⟨hw0, w1.1 h9⟩]; exact w2 h9
   refine kag ?_
   rw [← hz2]
   exact kaO
  have h29 := of_decide_eq_false hb
  rw [if_neg (fun h => h29 ((where_rel hs1.1 q.whr).1.2 h.2))] at hz
  refine kaQ ?_
  refine rk zs [5] fun K V => ?_
  refine ck func60 ((QF q hq (by have := fits_time hs1.2; omega) _ _)) ?_
  refine kas ?_
  refine kag ?_
  rw [hz]
  exact kaO
 have hw0 : q.whr.length = 0 := by have h9 := hb; simp at h9; simp [h9]
 rw [if_neg om] at hz
 refine kaQ ?_
 refine rk zs [5] fun K V => ?_
 refine ck func60 ((QF q hq (by have := fits_time hs1.2; omega) _ _)) ?_
 refine kas ?_
 refine kag ?_
 rw [hz]
 exact kaO
instance : Inhabited CR := ⟨CR.none⟩
theorem ND10.eqs {P Q : Prop} (g : Imp P Q := by (try simp only [go_sem, seval, hszs, hags, hmos, hsz, hag, hmo, YU, YL, Yt, Yc, f1, f2, f3, f4, hnth, e1, r1, r2, r3, Nat.add_assoc, List.length_map, Int.toNat_natCast, Pi, Zo]); exact N9) : Imp P Q := g
theorem ND11.eqs {P Q : Prop} (g : Imp P Q := by (try simp only [go_sem, seval, hszs, hags, hmos, hsz, hag, hmo, YU, YL, Yt, Yc, f1, f2, f3, f4, hnth, e1, Nat.add_assoc, List.length_map, Int.toNat_natCast, List.map_cons, List.map_nil, List.length_cons, List.length_nil, Zo]); exact N9) : Imp P Q := g
theorem ND12.eqs {P Q : Prop} (g : Imp P Q := by (try simp only [go_sem, seval, hszs, hags, hmos, hsz, hag, hmo, YU, YL, Yt, Yc, f1, f2, f3, f4, hn2, hx, YI, Zi, Nat.add_assoc, List.length_map, Int.toNat_natCast, Pi, Zo]); exact N9) : Imp P Q := g
theorem ND13.eqs {P Q : Prop} (g : Imp P Q := by (try simp only [go_sem, seval, hszs, hags, hmos, hsz, hag, hmo, YU, YL, Yt, Yc, f1, f2, f3, f4, hnth, e1, Nat.add_assoc, List.length_map, Int.toNat_natCast, Pi, Zo]); exact N9) : Imp P Q := g
theorem ND14.eqs {P Q : Prop} (g : Imp P Q := by (try simp only [go_sem, seval, hszs, hags, hmos, hsz, hag, hmo, YU, YL, Yt, Yc, f1, f2, f3, f4, Zr, List.drop_zero, Option.getD_some, Option.getD_none, Int.toNat_zero, Nat.add_assoc, List.length_map, Int.toNat_natCast, Pi, Zo]); exact N9) : Imp P Q := g
structure WantOK (fs : List Fml) (q : QryE) : Prop where
 sch : Zv fs = 0
 ok : 0 < q.whr.length → ∃ x, WB fs q.whr = .ok x
theorem ND20.eqs {P Q : Prop} (g : Imp P Q := by (try simp only [go_sem, seval, hszs, hags, hmos, hszq, hagq, hmoq, hszr, hagr, hmor, hcs, hca, hcm, f1, f2, f3, f4, b1, b2, b3, b4, b5, hnth, hnf, e1, e2, g1, g2, g3, g4, g5, YU, YL, Yt, Yc, Nat.add_assoc, List.length_map, Int.toNat_natCast, Zr, List.drop_zero, Option.getD_some, Option.getD_none, Int.toNat_zero, Zg, Zo, Zf, Zq, bys]); exact N9) : Imp P Q := g
theorem ND30.eqs {P Q : Prop} (g : Imp P Q := by (try simp only [go_sem, seval, hszs, hags, hmos, hszq, hagq, hmoq, hszr, hagr, hmor, f1, f2, f3, hnth, e1, b1, b3, he, hle, hge, Nat.add_assoc, List.length_map, Int.toNat_natCast, Zr, Zg, Zo, Zf, Zq, bys, Zi]); exact N9) : Imp P Q := g
theorem ND40.eqs {P Q : Prop} (g : Imp P Q := by (try simp only [go_sem, seval, hsz, hag, hmo, f1, M6, Zf, Zq, bys, List.length_map]); exact N9) : Imp P Q := g
theorem ND41.eqs {P Q : Prop} (g : Imp P Q := by (try simp only [go_sem, seval, hsz, hag, hmo, f1, hst, hql, M6, Zf, Zq, bys, List.length_map, Yi]); exact N9) : Imp P Q := g
theorem kl_row (r : RowE) (n : Nat) : (Zg r).kl n := ⟨WI _ _, XU Zo (fun c => ⟨trivial, WI _ _, trivial, WI _ _, trivial⟩) _, trivial⟩
theorem ND50.eqs {P Q : Prop} (g : Imp P Q := by (try simp only [go_sem, seval, hszs, hags, hmos, hszq, hagq, hmoq, hrs, hra, hrm, f1, f2, f3, b1, b2, b3, b4, b5, b6, hnth, e1, g1, g2, g3, g4, g5, XB, Vm, Nat.add_assoc, List.length_map, Int.toNat_natCast, Zg, Zf, Zq, bys]); exact N9) : Imp P Q := g
theorem lists_eq {α : Type} [Inhabited α] {a b : List α} (hl : a.length = b.length) (h : ∀ j, j < a.length → a.getD j default = b.getD j default) : a = b :=
 List.ext_getElem hl fun i h1 h2 => by have := h i h1; simpa [List.getD, List.getElem?_eq_getElem h1, List.getElem?_eq_getElem h2] using this
theorem celE_eq (a b : CelE) : (a = b) ↔ a.fam = b.fam ∧ a.ts = b.ts ∧ a.qual = b.qual ∧ a.value = b.value := by
 cases a; cases b; simp only [CelE.mk.injEq]; constructor <;> (rintro ⟨h1, h2, h3, h4⟩; exact ⟨h1, by assumption, by assumption, by assumption⟩)
theorem ND60.eqs {P Q : Prop} (g : Imp P Q := by (try simp only [go_sem, seval, hcs, hca, hcm, m1, m2, e1, List.length_map, Int.toNat_natCast, Zo]); exact N9) : Imp P Q := g
theorem ND60.sd {P : Prop} (g : P := by first | exact ⟨om, om⟩ | exact fun _ => ⟨om, om⟩ | (intro _ h9; rw [h9]; rfl) | fail) : P := g
set_option maxRecDepth 100000 in
set_option maxHeartbeats 3200000 in
open ND60 NZ in
theorem Kk (a b : List CelE) (ha : a.length ≤ 1048576) (hb9 : b.length ≤ 1048576) (H : Heap) (n : Nat) : Ret prog 75 [.sl 4 (a.map Zo), .sl 4 (b.map Zo)] H n (.bool (decide (a = b))) H n := by
 have hcs : ∀ c, (Zo c).sz = 4 := Xr
 have hca : ∀ c, (Zo c).isAgg = true := fun _ => rfl
 have hcm : ∀ c, (Zo c).memOK = true := fun _ => rfl
 have m1 := hcs
 have m2 := hcs
 have e1 := hcs
 refine fw func75 ntmps75 results75 ?_
 refine kb1 ?_
 refine Za fun K1 hK1 => ?_
 refine rg zs [0, 1, 10] ?_
 refine Zb ?_ ?_ <;> intro hb
 ·have hlen : a.length ≠ b.length := by have h9 := hb; simp at h9; omega
  have hres : decide (a = b) = false := decide_eq_false fun e => hlen (by rw [e])
  refine kag ?_
  rw [hres]
 have hlen : a.length = b.length := by have h9 := hb; simp at h9; omega
 refine kay ?_
 refine Za fun K2 hK2 => ?_
 refine rg zs [0, 1, 5] ?_
 refine kbM ?_
 refine Zp (fun T' H' n' => ∃ i : Nat, i ≤ a.length ∧ (∀ j, j < i → a.getD j default = b.getD j default) ∧ T' = tl [(0, .sl 4 (a.map Zo)), (1, .sl 4 (b.map Zo)), (5, .int .i64 i)] ∧ H' = H ∧ n' = n) (fun T' _ _ => a.length - iv (T' 5)) ?_ ?_
 ·exact kcy
 rintro T1 H1 n1 ⟨i, hi, hfa, rfl, rfl, rfl⟩
 refine Za fun K3 hK3 => ?_
 refine rg zs [0, 1, 5, 14] ?_
 refine Zb ?_ ?_ <;> intro hb
 ·have hci : i < a.length := ott
  have m1 : nth (a.map Zo) i = Zo (a.getD i default) := Zx Zo a i hci
  have m2 : nth (b.map Zo) i = Zo (b.getD i default) := Zx Zo b i om
  have e1 : IntKind.i64.wrap ((i : Int) + 1) = ((i + 1 : Nat) : Int) := w1 om
  obtain ⟨x, hx⟩ : ∃ x, x = a.getD i default := ⟨_, rfl⟩
  obtain ⟨y, hy⟩ : ∃ y, y = b.getD i default := ⟨_, rfl⟩
  rw [← hx] at m1
  rw [← hy] at m2
  refine kba ?_
  refine bk fun K4 hK4 => ?_
  refine dx zs [0, 1, 5, 68] [.m, .m, .q, .q, .q, .m, .m, .q, .q, .q, .q, .m, .m, .m, .q, .q, .q, .m, .m, .q, .q, .q, .q, .q, .m, .m, .m, .q, .q, .q, .m, .m, .q, .q, .q, .c, .q, .q, .m, .m, .m, .q, .q, .q, .m, .m, .q, .q, .q, .c, .q, .q] [0, 1, 2, 3, 4, 5, 6, 7, 8, 9, 10, 11, 12, 13, 14, 15, 16, 17, 18, 19, 20, 21, 22, 23, 24, 25, 26, 27, 28, 29, 30, 31, 32, 33, 34, 35, 36, 37, 38, 39, 40, 41, 42, 43, 44, 45, 46, 47, 48, 49, 50, 51] [0, 1, 2, 3, 4, 5, 6, 7, 8, 9, 10, 11, 12, 13, 14, 15, 16, 17, 18, 19, 20, 21, 22, 23, 24, 25, 26, 27, 28, 29, 30, 31, 32, 33, 34, 35, 36, 37, 38, 39, 40, 41, 42, 43, 44, 45, 46, 47, 48, 49, 50, 51] fun K V => ?_
  refine cq func46 (fun _ n => (Xu x.qual y.qual _ _)) ?_
  refine cq func46 (fun _ n => (Xu x.value y.value _ _)) ?_
  refine kas ?_
  refine Zb ?_ ?_ <;> intro hb
  ·have hne : a ≠ b := fun e => by
     subst e
     have : x = y := hx.trans hy.symm
     subst this
     simp at hb
   have hres : decide (a = b) = false := decide_eq_false hne
   refine rg zs [4] ?_
   refine ar ?_
   rw [hres]
  have hxy : x = y := by
    refine (celE_eq x y).2 ?_
    have h9 := hb
    simp at h9
    exact ⟨h9.1.1.1, h9.1.1.2, h9.1.2, h9.2⟩
  exact kbi
 have hci : i = a.length := otf
 have hres : decide (a = b) = true := decide_eq_true (lists_eq hlen (hci ▸ hfa))
 refine ax ?_
 apply hK2
 refine kag ?_
 rw [hres]
theorem ND61.eqs {P Q : Prop} (g : Imp P Q := by (try simp only [go_sem, seval, hcs, hca, hcm, m1, m2, e1, List.length_map, Int.toNat_natCast, Zg]); exact N9) : Imp P Q := g
theorem ND61.sd {P : Prop} (g : P := by first | exact ⟨om, om⟩ | exact fun _ => ⟨om, om⟩ | (intro _ h9; rw [h9]; rfl) | fail) : P := g
open ND61 NZ in
theorem Lf (a b : List RowE) (ha : a.length ≤ 1048576) (hb9 : b.length ≤ 1048576) (hac : ∀ x ∈ a, x.cells.length ≤ 1048576) (hbc : ∀ x ∈ b, x.cells.length ≤ 1048576) (H : Heap) (n : Nat) : Ret prog 43 [.sl 2 (a.map Zg), .sl 2 (b.map Zg)] H n (.bool (decide (a = b))) H n := by
 have hcs : ∀ c, (Zg c).sz = 2 := VA
 have hca : ∀ c, (Zg c).isAgg = true := fun _ => rfl
 have hcm : ∀ c, (Zg c).memOK = true := fun _ => rfl
 have m1 := hcs
 have m2 := hcs
 have e1 := hcs
 refine fw func43 ntmps43 results43 ?_
 refine kb1 ?_
 refine Za fun K1 hK1 => ?_
 refine rg zs [0, 1, 10] ?_
 refine Zb ?_ ?_ <;> intro hb
 ·have hlen : a.length ≠ b.length := by have h9 := hb; simp at h9; omega
  have hres : decide (a = b) = false := decide_eq_false fun e => hlen (by rw [e])
  refine kag ?_
  rw [hres]
 have hlen : a.length = b.length := by have h9 := hb; simp at h9; omega
 refine kay ?_
 refine Za fun K2 hK2 => ?_
 refine rg zs [0, 1, 5] ?_
 refine kbM ?_
 refine Zp (fun T' H' n' => ∃ i : Nat, i ≤ a.length ∧ (∀ j, j < i → a.getD j default = b.getD j default) ∧ T' = tl [(0, .sl 2 (a.map Zg)), (1, .sl 2 (b.map Zg)), (5, .int .i64 i)] ∧ H' = H ∧ n' = n) (fun T' _ _ => a.length - iv (T' 5)) ?_ ?_
 ·exact kcy
 rintro T1 H1 n1 ⟨i, hi, hfa, rfl, rfl, rfl⟩
 refine Za fun K3 hK3 => ?_
 refine rg zs [0, 1, 5, 14] ?_
 refine Zb ?_ ?_ <;> intro hb
 ·have hci : i < a.length := ott
  have m1 : nth (a.map Zg) i = Zg (a.getD i default) := Zx Zg a i hci
  have m2 : nth (b.map Zg) i = Zg (b.getD i default) := Zx Zg b i om
  have e1 : IntKind.i64.wrap ((i : Int) + 1) = ((i + 1 : Nat) : Int) := w1 om
  have hac1 := hac _ (YH a hci)
  have hbc1 := hbc _ (YH b (show i < b.length by omega))
  obtain ⟨x, hx⟩ : ∃ x, x = a.getD i default := ⟨_, rfl⟩
  obtain ⟨y, hy⟩ : ∃ y, y = b.getD i default := ⟨_, rfl⟩
  rw [← hx] at m1 hac1
  rw [← hy] at m2 hbc1
  refine kba ?_
  refine bk fun K4 hK4 => ?_
  refine dx zs [0, 1, 5, 42] [.m, .m, .q, .q, .q, .m, .m, .q, .q, .q, .c, .q, .m, .m, .m, .q, .q, .q, .m, .m, .q, .q, .q, .c, .q, .q] [0, 1, 2, 3, 4, 5, 6, 7, 8, 9, 10, 11, 12, 13, 14, 15, 16, 17, 18, 19, 20, 21, 22, 23, 24, 25] [0, 1, 2, 3, 4, 5, 6, 7, 8, 9, 10, 11, 12, 13, 14, 15, 16, 17, 18, 19, 20, 21, 22, 23, 24, 25] fun K V => ?_
  refine cq func46 (fun _ n => (Xu x.row y.row _ _)) ?_
  refine cq func75 (fun _ n => (Kk x.cells y.cells hac1 hbc1 _ _)) ?_
  refine kas ?_
  refine Zb ?_ ?_ <;> intro hb
  ·have hne : a ≠ b := fun e => by
     subst e
     have : x = y := hx.trans hy.symm
     subst this
     simp at hb
   have hres : decide (a = b) = false := decide_eq_false hne
   refine rg zs [4] ?_
   refine ar ?_
   rw [hres]
  have hxy : x = y := by
    have h9 := hb
    simp at h9
    cases x; cases y; simp only [RowE.mk.injEq]; exact h9
  exact kbi
 have hci : i = a.length := otf
 have hres : decide (a = b) = true := decide_eq_true (lists_eq hlen (hci ▸ hfa))
 refine ax ?_
 apply hK2
 refine kag ?_
 rw [hres]
theorem ND62.eqs {P Q : Prop} (g : Imp P Q := by (try simp only [go_sem, seval, hza, hzb, f1, pgAV, bys]); exact N9) : Imp P Q := g
open N0 in
theorem Ko (a b : List UInt8) (H : Heap) (n : Nat) : Ret prog 26 [bys a, bys b] H n (.bool (a == b)) H n := by
 refine fw func26 ntmps26 results26 ?_
 refine kb1 ?_
 refine rc zs [4] func46 ((Xu a b _ _)) ?_
 refine ar ?_
 trivial
open N0 in
theorem Xw (e : Int) (H : Heap) (n : Nat) : Ret prog 20 [.int .i64 e] H n (.int .i64 e) H n := by
 refine fw func20 ntmps20 results20 ?_
 refine kcu ?_
 refine kal ?_
 trivial
theorem NE10.eqs {P Q : Prop} (g : Imp P Q := by (try simp only [go_sem, seval, hza, haa, hma, hzb, hab, hmb, f1, m1, m2, e1, Zf, Zq, bys, List.length_map, Int.toNat_natCast]); exact N9) : Imp P Q := g
structure LdS (q : QryE) (k1 k2 k3 k4 kw kf vf : Nat) (H : Heap) : Prop where
 h1 : H k1 = some (VU (k1, q.frm))
 h2 : H k2 = some (VU (k2, q.to))
 h3 : H k3 = some (VU (k3, q.pre))
 h4 : H k4 = some (VU (k4, q.token))
 hw : H kw = some (.arr 0 1 [Ww (k1, q.frm), Ww (k2, q.to), Ww (k3, q.pre), Ww (k4, q.token)])
 hf : H kf = some (.arr vf 1 ((q.fams ++ [-77]).map fun x : Int => (.int .i64 x : AV)))
 d : (k1 ≠ k2 ∧ k1 ≠ k3 ∧ k1 ≠ k4 ∧ k2 ≠ k3 ∧ k2 ≠ k4 ∧ k3 ≠ k4) ∧ (kw ≠ k1 ∧ kw ≠ k2 ∧ kw ≠ k3 ∧ kw ≠ k4) ∧ (kf ≠ k1 ∧ kf ≠ k2 ∧ kf ≠ k3 ∧ kf ≠ k4 ∧ kf ≠ kw)
def laidQ (q : QryE) (k1 k2 k3 k4 kf vf : Nat) : AV := qaX q (.osl k1 2 0 q.frm.length) (.osl k2 2 0 q.to.length) (.osl kf vf 0 q.fams.length) (.osl k3 2 0 q.pre.length) (.osl k4 2 0 q.token.length)
def laidAV (q : QryE) (k1 k2 k3 k4 kw kf vf : Nat) : AV := .agg [laidQ q k1 k2 k3 k4 kf vf, .osl kw 0 0 4, .osl kf vf 0 (q.fams.length + 1)]
theorem NE20.eqs {P Q : Prop} (g : Imp P Q := by (try simp only [go_sem, seval, hsz, hag, hmo, f1, f2, f3, f4, f5, hE, Zf, Zq, bys, Nat.add_assoc, List.length_map, List.length_append, Int.toNat_natCast, Option.getD_some, Option.getD_none, Nat.sub_zero]); exact N9) : Imp P Q := g
theorem NE21.eqs {P Q : Prop} (g : Imp P Q := by (try simp only [go_sem, seval, hsz, hag, hmo, f1, f2, b1, b2, b3, b4, g1, g2, g3, g4, hnth, e1, e2, e3, e4, hfn, hf0, g5, g6, hpo1, laidAV, laidQ, qaX, Zf, Zq, bys, Ww, Nat.add_assoc, List.length_map, List.length_append, List.length_cons, List.length_nil, Int.toNat_natCast, Option.getD_some, Option.getD_none, Nat.zero_add]); exact N9) : Imp P Q := g
theorem NE30.eqs {P Q : Prop} (g : Imp P Q := by (try simp only [go_sem, seval, hO, hW, hT, hrs, e1, e2, e3, e4, e5, g5, g6, hnth, hpo1, b1, b2, b4, Ww, Nat.add_assoc, List.length_map, List.length_append, List.length_cons, List.length_nil, Int.toNat_natCast, Option.getD_some, Option.getD_none, Nat.zero_add]); exact N9) : Imp P Q := g
theorem NE40.eqs {P Q : Prop} (g : Imp P Q := by (try simp only [go_sem, seval, hszs, hags, hmos, hszq, hagq, hmoq, hszp, hagp, hmop, f1, f2, f3, b1, b2, b3, b4, b5, b6, d1, d2, d3, d5, e1, e2, e3, e4, Nat.add_assoc, List.length_map, Int.toNat_natCast, Option.getD_some, Option.getD_none]); exact N9) : Imp P Q := g
end Go.Proofs.YtkmkbndcekklmaaGreatDoor
namespace Go.Sx
open Go
end Go.Sx
set_option maxRecDepth 10000
namespace Go.Proofs.YtkmkbndcekklmaaGreatDoor
open Go Go.Sx Go.Rt Go.Proofs Tryz
theorem _root_.Go.Sx.Zn.adoptO {P : Program} {f : FuncId} {args : List AV} {H : Heap} {n : Nat} {K : ARes → Heap → Nat → Prop} (k esz : Nat) {ver e : Nat} {els els' : List AV} (hk : H k = some (.arr ver e els)) (ha : AdpL n els els')
   (h : Zn P f args ((H.put n (some (.arr 0 esz []))).put k (some (.arr ver e els'))) (n + 1) K) : Zn P f args H n K := fun c w vs hs hr => by
 have hst := Pt hs esz
 have hkn : k ≠ n := fun e => by subst e; rw [(hs.fresh _ (Nat.le_refl _)).1] at hk; simp at hk
 have hst2 := Step.retell (els' := els') hst.sim (k := k) (by rw [NW _ _ hkn]; exact hk) (fun ds hd => ha.relF Pb hd) ha.len.symm ha.szAll
 exact (h _ w vs (hst.trans hst2).sim (RelT.mono (hst.trans hst2).le _ _ hr)).mono fun e w' ⟨res, c', H', n', V, hst3, hm⟩ => ⟨res, c', H', n', V, (hst.trans hst2).trans hst3, hm⟩
def srcN (rows : List RowE) (err : Int) : AObj := .arr 0 5 [.agg [.sl 2 (rows.map Zg), .int .i64 err, .int .i64 0, .nilsl, .nilsl]]
def RunO (ks : Nat) (z : PgE × Nat × Int) (H : Heap) (n : Nat) (res : ARes) (H' : Heap) (n' : Nat) : Prop :=
 n ≤ n' ∧ (∀ k, k < n → k ≠ ks → H' k = H k) ∧ ∃ a pk, res = .val (.tup [a, .int .i64 z.2.2]) ∧ Own H' a (pgAV z.1) pk ∧ pk.Nodup ∧ (∀ k ∈ pk, n ≤ k ∧ k < n')
def RunP (ks : Nat) (z : PgE × Nat × Int) (H : Heap) (n : Nat) (res : ARes) (H' : Heap) (n' : Nat) : Prop :=
 n ≤ n' ∧ (∀ k, k < n → k ≠ ks → H' k = H k) ∧ res = .val (.tup [pgAV z.1, .int .i64 z.2.2])
theorem RunO.frz {ks : Nat} {z : PgE × Nat × Int} {H : Heap} {n : Nat} {P : Program} {f : FuncId} {args : List AV} (h : Zn P f args H n (RunO ks z H n)) : Zn P f args H n (RunP ks z H n) :=
 h.frzS fun res H1 n1 ⟨h1, h2, a, pk, hr, ho, hd, hp⟩ => by
   have e := Pw (j := .i64) (y := z.2.2) ho
   exact ⟨_, _, fun k => k ∈ pk, inferInstance, hr, FzO.own e (fun k hk => hk), h1, fun k a b => (Heap.dropS_ne (S := fun k => k ∈ pk) (fun hm => by have := hp k hm; omega)).trans (h2 k a b), rfl⟩
theorem o_query_Run (fs : List Fml) (hfs : fs.length ≤ 1048576) (q : QryE) (hqf : q.fine) (clock : Int) (rows : List RowE) (err : Int) (hrw : YP rows) (ks : Nat) {H : Heap} {n : Nat} (hG : GOK 1 1 H n) (hs : H ks = some (srcN rows err)) :
   Zn prog 18 [Zi fs, Zf q, .int .i64 clock, .iface 52 (.loc ks 0 0 0 [])] H n (RunO ks (runE fs q clock (some (rows, err))) H n) :=
 Zn.below hs fun hks => by
   refine Zn.adoptO ks 1 (ver := 0) (e := 5) (els := [.agg [.sl 2 (rows.map Zg), .int .i64 err, .int .i64 0, .nilsl, .nilsl]]) (els' := [.agg [.sl 2 (rows.map Zg), .int .i64 err, .int .i64 0, .osl n 0 0 0, .nilsl]]) hs ⟨Adp.agg ⟨.refl _ _, .refl _ _, .refl _ _, Adp.nilsl _, .refl _ _, trivial⟩, trivial⟩ ?_
   refine Zn.adoptO ks 2 (ver := 0) (e := 5) (els := [.agg [.sl 2 (rows.map Zg), .int .i64 err, .int .i64 0, .osl n 0 0 0, .nilsl]]) (els' := [Uz rows err 0 n 0 0 (n + 1) 0 0]) (N8 _ _ _) ⟨Adp.agg ⟨.refl _ _, .refl _ _, .refl _ _, .refl _ _, Adp.nilsl _, trivial⟩, trivial⟩ ?_
   obtain ⟨H2, hH2⟩ : ∃ x, x = (((((H.put n (some (.arr 0 1 []))).put ks (some (.arr 0 5 [.agg [.sl 2 (rows.map Zg), .int .i64 err, .int .i64 0, .osl n 0 0 0, .nilsl]]))).put (n + 1) (some (.arr 0 2 []))).put ks (some (.arr 0 5 [Uz rows err 0 n 0 0 (n + 1) 0 0]))) : Heap) := ⟨_, rfl⟩
   rw [← hH2]
   have g1 : H2 ks = some (.arr 0 5 [Uz rows err 0 n 0 0 (n + 1) 0 0]) := by rw [hH2]; (try simp only [N7]); (repeat first | rw [if_pos rfl] | rw [if_pos trivial] | rw [if_neg om])
   have g2 : H2 n = some (.arr 0 1 []) := by rw [hH2]; (try simp only [N7]); (repeat first | rw [if_pos rfl] | rw [if_pos trivial] | rw [if_neg om])
   have g3 : H2 (n + 1) = some (.arr 0 2 []) := by rw [hH2]; (try simp only [N7]); (repeat first | rw [if_pos rfl] | rw [if_pos trivial] | rw [if_neg om])
   have g4 : ∀ k, k < n → k ≠ ks → H2 k = H k := fun k a b => by rw [hH2]; (try simp only [N7]); (repeat first | rw [if_pos rfl] | rw [if_pos trivial] | rw [if_neg om])
   have hne : ∀ g o, H g = some (.glob o UM) → g ≠ ks := fun g o hg e => by rw [e, hs] at hg; cases hg
   have hne2 : ∀ g o, H g = some (.glob o Ng) → g ≠ ks := fun g o hg e => by rw [e, hs] at hg; cases hg
   have hG2 : GOK 1 1 H2 (n + 1 + 1) := hG.at2 (by
     by_cases hn : (1 : Nat) = 1
     ·rw [hn]; exact g4 _ hG.get (hne _ _ hG.table)
     ·exact g4 _ hG.gek (hne2 _ _ (hG.kindsC hn))) (g4 _ hG.get (hne _ _ hG.table)) om
   have hS : SrcS rows err ks n (n + 1) (n + 2) 0 0 0 [] [] [] H2 (n + 1 + 1) := ⟨g1, g2, fun p hp => (by cases hp), fun p hp => (by cases hp), osi, g3, Pile.nil _ _ _, om, fun p hp => (by cases hp)⟩
   refine (x_query_Run fs hfs q hqf clock rows err hrw ks n (n + 1) (n + 2) 0 0 hG2 (QL.ro q H2) (fun j hj => by cases hj) hS).mono ?_
   rintro res H3 n3 ⟨h1, h2, a, pk, vw, vt, kb, tels, tk, hr, ho, hd, hp, _⟩
   exact ⟨om, fun k a b => (h2 k om b om om).trans (g4 k a b), a, pk, hr, ho, hd, fun k hk => by have := hp k hk; omega⟩
theorem XK (fs : List Fml) (hfs : fs.length ≤ 1048576) (q : QryE) (hqf : q.fine) (clock : Int) (rows : List RowE) (err : Int) (hrw : YP rows) (ks : Nat) {H : Heap} {n : Nat} (hG : GOK 1 1 H n) (hs : H ks = some (srcN rows err)) :
 Zn prog 18 [Zi fs, Zf q, .int .i64 clock, .iface 52 (.loc ks 0 0 0 [])] H n (RunP ks (runE fs q clock (some (rows, err))) H n) := RunO.frz (o_query_Run fs hfs q hqf clock rows err hrw ks hG hs)
theorem NE50.eqs {P Q : Prop} (g : Imp P Q := by (try simp only [go_sem, seval, hszs, hags, hmos, hszq, hagq, hmoq, f1, f2, f4, Nat.add_assoc, List.length_map, Int.toNat_natCast]); exact N9) : Imp P Q := g
def twoF : List Fml := [⟨[97], 3, 0⟩, ⟨[98], 3, 0⟩]
def YV (i : Nat) : RowE := ⟨[114, UInt8.ofNat (49 + i)], [⟨0, [120], 5, [49]⟩, ⟨1, [121], 4, [50]⟩]⟩
def ZL : List RowE := [YV 0, YV 1, YV 2]
open N0 in
theorem Ub (H : Heap) (n : Nat) : Ret prog 14 [] H n (Zi twoF) H n := by
 refine Ret.fin ?_
 refine fw func14 ntmps14 results14 ?_
 refine kcu ?_
 refine kcu ?_
 refine ar ?_
 exact ⟨_, rfl, fun k hk => oh, .kl (kl_sch twoF _)⟩
theorem plain_at {i : Nat} (h : i < 3) : ZL.getD i default = YV i := by rcases i with _ | _ | _ | i <;> first | rfl | omega
theorem MP {i : Nat} (h : i < 3) : Zd (UInt8.ofNat (49 + i)) = .int .u8 ((49 + i : Nat) : Int) := by rcases i with _ | _ | _ | i <;> first | rfl | omega
theorem NE60.eqs {P Q : Prop} (g : Imp P Q := by (try simp only [go_sem, seval, e1, e2, e3, e4, g1, g2, g3, g4, g5, g6, hst, Nat.add_assoc]); exact N9) : Imp P Q := g
theorem NE60.inz {P Q : Prop} (g : Imp P Q := by refine Imp.up eqs ?_; (repeat (first | (refine Imp.nd ?_ ?_; · first | exact ⟨rfl, fun x hx => by simp only [List.mem_cons, List.not_mem_nil, or_false] at hx; rcases hx with rfl | rfl <;> exact ⟨rfl, rfl⟩⟩ | exact ⟨1, rfl, rfl⟩) | refine Imp.pl ?_)); exact N9) : Imp P Q := g
set_option maxHeartbeats 1600000 in
open NE60 in
theorem Un (H : Heap) (n : Nat) : Ret prog 17 [] H n (.sl 2 (ZL.map Zg)) H n := by
 have e1 : n = n := rfl
 have e2 : n = n := rfl
 have e3 : n = n := rfl
 have e4 : n = n := rfl
 have g6 : n = n := rfl
 have hst : n = n := rfl
 have g1 : ∀ k : Nat, (k = k + 1) = False := fun k => by simp
 have g2 : ∀ k : Nat, (k = k + 2) = False := fun k => by simp
 have g3 : ∀ k : Nat, (k = k + 3) = False := fun k => by simp
 have g4 : ∀ k : Nat, (k = k + 4) = False := fun k => by simp
 have g5 : ∀ k : Nat, (k = k + 5) = False := fun k => by simp
 refine Ret.fin ?_
 refine fw func17 ntmps17 results17 ?_
 refine rg zs [] ?_
 refine rg zs [1] ?_
 refine Za fun K1 hK1 => ?_
 refine Z8 1 2 rfl ?_
 refine rg zs [1, 2] ?_
 refine Zy ?_
 refine Zp (fun T' H' n' => ∃ i : Nat, i ≤ 3 ∧ T' = tl [(1, .osl n i 0 i), (2, .int .i64 i)] ∧ H' n = some (.arr i 2 ((ZL.take i).map Zg)) ∧ (∀ k, k < n → H' k = H k) ∧ n' = n + 1 + 6 * i) (fun T' _ _ => 3 - iv (T' 2)) ?_ ?_
 ·exact ⟨0, by omega, rfl, by (try simp only [N7]); (repeat first | rw [if_pos rfl] | rw [if_pos trivial] | rw [if_neg (by omega)]); rfl, fun k hk => by (try simp only [N7]); (repeat first | rw [if_pos rfl] | rw [if_pos trivial] | rw [if_neg (by omega)]), rfl⟩
 rintro T1 H1 n1 ⟨i, hi, rfl, b1, hlow, hn1⟩
 refine Za fun K2 hK2 => ?_
 refine rg zs [1, 2, 5] ?_
 refine Zb ?_ ?_ <;> intro hb
 ·have hci : i < 3 := by have := of_decide_eq_true hb; omega
  have e1 : IntKind.i64.wrap (49 + (i : Int)) = ((49 + i : Nat) : Int) := by rw [w64 (by omega) (by omega)]; omega
  have e2 : IntKind.u8.wrap ((49 + i : Nat) : Int) = ((49 + i : Nat) : Int) := by rcases i with _ | _ | _ | i <;> first | rfl | omega
  have e3 : IntKind.i64.wrap ((i : Int) + 1) = ((i + 1 : Nat) : Int) := w1 (by omega)
  have e4 : (n = n1) = False := by simp; omega
  refine ak ?_
  apply hK2
  refine bk fun K3 hK3 => ?_
  refine rg zs [1, 2, 3] ?_
  refine rg zo [1, 2, 3] ?_
  refine VR (n1 + 5) n1 (ver := 0) (e := 4) (els := (YV i).cells.map Zo) (vj := 0) (ej := 2) (lj := [.agg [.sl 1 [.int .u8 114, .int .u8 ((49 + i : Nat) : Int)], .osl (n1 + 5) 0 0 2]]) (lj' := [Zg (YV i)]) (by (try simp only [N7]); (repeat first | rw [if_pos rfl] | rw [if_pos trivial] | rw [if_neg (by omega)]); rfl) (by (try simp only [N7]); (repeat first | rw [if_pos rfl] | rw [if_pos trivial] | rw [if_neg (by omega)])) (by omega) ⟨FzV.agg ⟨?_, FzV.osl (off := 0) (len := 2) (by simp [YV]), trivial⟩, trivial⟩ ?_
  ·rw [← MP hci]; exact .refl _
  have g6 : ∀ j : Nat, (n = n1 + j) = False := fun j => by simp; omega
  have hst : strip true (Zg (YV i)) = Zg (YV i) := rfl
  have hl : (List.map Zg (List.take i ZL)).length = i := by rw [List.length_map, List.length_take, show ZL.length = 3 from rfl]; omega
  have hrs := VA (YV i)
  have hrm : (Zg (YV i)).memOK = true := rfl
  have hra : (Zg (YV i)).isAgg = true := rfl
  refine ZG zs [1, 2] fun K V => ?_
  try simp only [go_sem, seval, e1, e2, e3, e4, g1, g2, g3, g4, g5, g6, hst, Nat.add_assoc, hrs, hrm, hra, b1]
  repeat (first | (refine And.intro ?_ ?_; · first | exact ⟨by omega, .inr trivial, by omega, by omega⟩ | exact ⟨rfl, fun x hx => by rw [List.mem_singleton.1 hx]; exact ⟨hrs, hrm⟩⟩) | refine peel ?_)
  apply V; clear V K
  refine ns ?_
  apply hK3
  refine rg1 zs [1, 2] ?_
  refine ⟨⟨i + 1, by omega, rfl, ?_, fun k hk => by (try simp only [N7]); (repeat first | rw [if_pos rfl] | rw [if_pos trivial] | rw [if_neg (by omega)]); exact hlow k hk, by omega⟩, by omega⟩
  rw [Uw ZL (show i < ZL.length from hci), plain_at hci]
  (try simp only [N7]); (repeat first | rw [if_pos rfl] | rw [if_pos trivial] | rw [if_neg (by omega)])
  rw [List.take_of_length_le (by omega), List.map_append]; rfl
 have hci : i = 3 := by have := of_decide_eq_false hb; omega
 subst hci
 refine ax ?_
 apply hK1
 refine rg zs [0] ?_
 refine ar ?_
 exact ⟨_, rfl, hlow,   .osl b1 (by omega) (by simp [ZL]) (by rw [List.take_of_length_le (show ZL.length ≤ 3 from Nat.le_refl 3), List.drop_zero, List.take_of_length_le (show (ZL.map Zg).length ≤ 3 from Nat.le_refl 3)]; exact XV _ (XU Zg (fun x => kl_rowAV x n) _))⟩
theorem NE61.eqs {P Q : Prop} (g : Imp P Q := by (try simp only [go_sem, seval, List.length_map]); exact N9) : Imp P Q := g
open NE61 NY in
theorem Xa (b : List UInt8) (hb : b.length ≤ 1099511627776) (H : Heap) (n : Nat) : Ret prog 23 [bys b] H n (bys b) H n := by
 have h9 := QE b hb 0 b.length (Nat.zero_le _) (Nat.le_refl _) H n
 exact kbY
theorem NE62.eqs {P Q : Prop} (g : Imp P Q := by (try simp only [go_sem, seval, hsz, hag, hmo, Zf, Zq, bys, List.length_map, Int.toNat_natCast]); exact N9) : Imp P Q := g
theorem NE62.sd {P : Prop} (g : P := by first | exact ⟨.inr trivial, om, om⟩ | fail) : P := g
set_option maxHeartbeats 1600000 in
open NE62 NZ in
theorem NL (q : QryE) (hq : q.fine) (H : Heap) (n : Nat) : Ret prog 32 [Zf q] H n (Zf q) H n := by
 have hsz : (Zf q).sz = 10 := Z5 q
 have hag : (Zf q).isAgg = true := rfl
 have hmo : (Zf q).memOK = true := rfl
 have h1 := hq.frm
 have h2 := hq.to
 have h3 := hq.pre
 have h4 := hq.token
 have h5 := hq.fams
 refine Ret.fin ?_
 refine fw func32 ntmps32 results32 ?_
 refine rg zs [1, 2] ?_
 refine rk zs [1, 2] fun K V => ?_
 refine ck func23 ((Xa q.frm om _ _)) ?_
 refine kas ?_
 refine rk zs [1, 2] fun K V => ?_
 refine ck func23 ((Xa q.to om _ _)) ?_
 refine kas ?_
 refine rk zs [1, 2] fun K V => ?_
 refine ck func23 ((Xa q.pre om _ _)) ?_
 refine kas ?_
 refine rk zs [1, 2] fun K V => ?_
 refine ck func23 ((Xa q.token om _ _)) ?_
 refine kas ?_
 refine rg zs [1, 2, 3] ?_
 refine rg zs [1, 2] ?_
 refine kal ?_
 exact ⟨_, rfl, fun k hk => oh, .kl (kl_qry q _)⟩
def q0 : QryE := { frm := [], to := [], fams := [], pre := [], time := 0, n := 1, rows := 2, rev := false, whr := [118, 97, 108, 117, 101, 32, 61, 32, 34, 49, 34], token := [] }
def pg0 : PgE := (runE twoF q0 9 (some (ZL, 0))).1
def q1 : QryE := { q0 with token := pg0.token }
def pg1 : PgE := (runE twoF q1 99 (some (ZL.drop 2, 0))).1
theorem st1 : (runE twoF q0 9 (some (ZL, 0))).2.2 = 0 ∧ pg0.rows.length = 2 ∧ (pg0.rows.getD 0 default).cells.length = 1 ∧ pg0.done = false ∧ pg0.token.length ≠ 0 ∧ pg0.token.length ≤ 1000 := by decide +kernel
theorem st2 : ZC q1 = ([114, 50, 0], true, 0) := by decide +kernel
theorem st3 : (runE twoF q1 99 (some (ZL.drop 2, 0))).2.2 = 0 ∧ pg1.rows.length = 1 ∧ pg1.done = true ∧ pg1.token = [] := by decide +kernel
theorem q0_fine : q0.fine := ⟨odc, odc, odc, odc, odc, odc⟩
theorem q1_fine : q1.fine := ⟨odc, odc, odc, odc, odc, by have := st1.2.2.2.2.2; show pg0.token.length ≤ _; omega⟩
theorem Qq : YP ZL := ⟨odc, fun x hx => by simp only [ZL, List.mem_cons, List.not_mem_nil, or_false] at hx; rcases hx with rfl | rfl | rfl <;> refine ⟨odc, odc, fun c hc => ?_⟩ <;> simp only [YV, List.mem_cons, List.not_mem_nil, or_false] at hc <;> rcases hc with rfl | rfl <;> decide⟩
theorem YP.drop {l : List RowE} (h : YP l) (k : Nat) : YP (l.drop k) := ⟨by rw [List.length_drop]; have := h.1; omega, fun x hx => h.2 x (List.mem_of_mem_drop hx)⟩
theorem cq_two (H : Heap) : Jw prog (.fn (.func 14) [] []) [] H (Zi twoF) := fun m => Zt func14 rfl rfl rfl (Ub H m) ⟨rfl, rfl, rfl⟩
theorem cq_plain (H : Heap) : Jw prog (.fn (.func 17) [] []) [] H (.sl 2 (ZL.map Zg)) := fun m => Zt func17 rfl rfl rfl (Un H m) ⟨rfl, rfl, rfl⟩
theorem ret_start (q : QryE) (hq : q.fine) {r : List UInt8 × Bool × Int} (hr : ZC q = r) {H : Heap} {n : Nat} (hG : GOK 1 1 H n) : Ret prog 24 [Zf q] H n (.tup [bys r.1, .bool r.2.1, .int .i64 r.2.2]) H n := by
 have := Uf hq hG (QL.ro q H)
 unfold XB at this
 rw [hr] at this
 exact this
theorem NE70.eqs {P Q : Prop} (g : Imp P Q := by (try simp only [go_sem, seval, hszq, hagq, hmoq, hszp, hagp, hmop, b1, b2, g1, g2, g3, s2, s3, s4, u2, u3, u4, hn0, pgAV, Zg, bys, Nat.add_assoc, List.length_map, Int.toNat_natCast]); exact N9) : Imp P Q := g
theorem NE70.sd {P : Prop} (g : P := by first | ((repeat' apply And.intro) <;> first | (intro d hd; cases hd; exact cq_two _) | (intro d hd; cases hd; exact cq_plain _) | (intro g; trivial) | (intro g; rfl)) | exact ⟨1, rfl, rfl⟩ | fail) : P := g
set_option maxRecDepth 100000 in
set_option maxHeartbeats 3200000 in
open NE70 NZ in
theorem LZ (H : Heap) (n : Nat) (hG : GOK 1 1 H n) : Ret prog 31 [] H n (.bool true) H n := by
 have hszq : ∀ q, (Zf q).sz = 10 := Z5
 have hagq : ∀ q, (Zf q).isAgg = true := fun _ => rfl
 have hmoq : ∀ q, (Zf q).memOK = true := fun _ => rfl
 have hszp : ∀ p, (pgAV p).sz = 3 := fun _ => rfl
 have hagp : ∀ p, (pgAV p).isAgg = true := fun _ => rfl
 have hmop : ∀ p, (pgAV p).memOK = true := fun _ => rfl
 have hg1 := hG.gek
 have hg2 := hG.get
 obtain ⟨s1, s2, s3, s4, s5, s6⟩ := st1
 obtain ⟨u1, u2, u3, u4⟩ := st3
 have hn0 : nth (pg0.rows.map Zg) 0 = Zg (pg0.rows.getD 0 default) := Zx Zg _ 0 om
 have b1 := hG
 have b2 := hG
 have g1 : (n = n + 1) = False := osi
 have g2 : (n = n + 2) = False := osi
 have g3 := hG
 refine Ret.fin ?_
 refine fw func31 ntmps31 results31 ?_
 refine rg zs [] ?_
 refine rg zs [1] ?_
 refine X0 n (els' := [Zf q0]) (N8 _ _ _) ⟨Wk.agg ⟨Wk.nilsl 1, Wk.nilsl 1, Wk.nilsl 1, Wk.nilsl 1, .refl _, .refl _, .refl _, .refl _, .refl _, Wk.nilsl 1, trivial⟩, trivial⟩ ?_
 refine awp_seq_j (fun T' H' n' => ∃ kp : Nat, T' = tl [(1, .loc n 0 0 0 []), (2, .loc kp 0 0 0 []), (3, .int .i64 0)] ∧ H' n = some (.arr 0 10 [Zf q0]) ∧ H' kp = some (.arr 0 3 [pgAV pg0]) ∧ n < kp ∧ kp < n' ∧ ∀ k, k < n → H' k = H k) ?_ ?_
 ·refine awp_tree1 rfl zs [1, 2, 3] 10 [.c, .q, .c, .q, .w [1], .q, .w [], .m, .q, .q, .w [], .w [9], .q] [0, 1, 2, 3, 4, 5, 6, 7, 8, 9] [11, 12] (.w [0, 1, 2, 3, 5, 8, 9]) [(4, .w [0, 1, 2, 3]), (6, .w [0, 1, 2, 3, 5])] [0, 1, 2, 3, 4, 5, 6, 7, 8, 9, 0, 10, 11] odc (by kernel_rfl) (fun _ _ _ _ _ h => h) fun K V => ?_
  refine nz ?_
  refine cq func14 (fun _ n => (Ub _ _)) ?_
  refine cq func17 (fun _ n => (Un _ _)) ?_
  refine And.intro ?_ ?_
  ·refine nz ?_
   refine Zu (args' := [Zi twoF, Zf q0, .int .i64 9, .iface 52 (.loc _ 0 0 0 [])]) func18 rfl rfl rfl ((XK twoF odc q0 q0_fine 9 ZL 0 Qq _ ?_ ?_)) ?_ ?_
   ·exact hG.on (fun k hk => oh) om
   ·refine ohx ?_; rfl
   rotate_left
   ·exact kb4
   intro rr H1 n1 hc
   obtain ⟨hn1, hlo1, hr⟩ := hc
   rw [s1, show (runE twoF q0 9 (some (ZL, 0))).1 = pg0 from rfl] at hr
   cases hr
   have g3 : (n = n1) = False := oz
   have b2 : H1 n = some (.arr 0 10 [Zf q0]) := (hlo1 _ om om).trans oh
   have b1 : H1 (n + 1) = some (.arr 0 3 [.agg [.nilsl, .nilsl, .bool false]]) := (hlo1 _ om om).trans oh
   exact kak
  refine nz ?_
  refine And.intro ?_ ?_
  ·refine nz ?_
   refine Zu (args' := [Zi twoF, Zf q0, .int .i64 9, .iface 52 (.loc _ 0 0 0 [])]) func18 rfl rfl rfl ((XK twoF odc q0 q0_fine 9 ZL 0 Qq _ ?_ ?_)) ?_ ?_
   ·exact hG.on (fun k hk => oh) om
   ·refine ohx ?_; rfl
   rotate_left
   ·exact kb4
   intro rr H1 n1 hc
   obtain ⟨hn1, hlo1, hr⟩ := hc
   rw [s1, show (runE twoF q0 9 (some (ZL, 0))).1 = pg0 from rfl] at hr
   cases hr
   have g3 : (n = n1) = False := oz
   have b2 : H1 n = some (.arr 0 10 [Zf q0]) := (hlo1 _ om om).trans oh
   have b1 : H1 (n + 2) = some (.arr 0 3 [.agg [.nilsl, .nilsl, .bool false]]) := (hlo1 _ om om).trans oh
   exact kak
  refine nz ?_
  refine Zu (args' := [Zi twoF, Zf q0, .int .i64 9, .iface 52 (.loc _ 0 0 0 [])]) func18 rfl rfl rfl ((XK twoF odc q0 q0_fine 9 ZL 0 Qq _ ?_ ?_)) ?_ ?_
  ·exact hG.on (fun k hk => oh) om
  ·refine ohx ?_; rfl
  rotate_left
  ·exact kb4
  intro rr H1 n1 hc
  obtain ⟨hn1, hlo1, hr⟩ := hc
  rw [s1, show (runE twoF q0 9 (some (ZL, 0))).1 = pg0 from rfl] at hr
  cases hr
  have g3 : (n = n1) = False := oz
  have b2 : H1 n = some (.arr 0 10 [Zf q0]) := (hlo1 _ om om).trans oh
  exact kak
 rintro T9 H1 n1 ⟨kp, rfl, b2, b1, hkp, hkn, hlow1⟩
 refine Za fun K1 hK1 => ?_
 refine rc zs [1, 2, 45] func20 ((Xw _ _ _)) ?_
 refine Zb ?_ ?_ <;> intro hb
 ·exact absurd hb (by simp [s5])
 refine kay ?_
 refine rg zs [1, 2] ?_
 refine rk zs [1, 2, 4, 5, 6] fun K V => ?_
 refine ck func24 ((ret_start q1 q1_fine st2 (hG.on (fun k hk => ohx (hlow1 k hk)) om))) ?_
 refine kas ?_
 refine Za fun K2 hK2 => ?_
 refine Ze zs [1, 2, 67] fun K V => ?_
 refine kaY ?_
 repeat refine peel ?_
 refine Zt func20 rfl rfl rfl ((Xw _ _ _)) ?_
 refine kaY ?_
 repeat (first | (refine And.intro ?_ ?_; · first | exact ⟨rfl, fun x hx => by simp only [List.mem_cons, List.not_mem_nil, or_false] at hx; rcases hx with rfl | rfl | rfl <;> exact ⟨rfl, rfl⟩⟩) | refine peel ?_)
 refine Yy func26 rfl rfl rfl (fun _ => (Ko [114, 50, 0] [114, 50, 0] _ _)) ?_
 refine kaY ?_
 refine kad ?_
 refine Zb ?_ ?_ <;> intro hb
 ·exact kaJ
 refine kaQ ?_
 refine ZU (fun H' n' => H' n = some (.arr 0 10 [Zf q1]) ∧ H' kp = some (.arr 0 3 [pgAV pg0]) ∧ (∀ k, k < n → H' k = H k) ∧ n' = n1) ⟨ohr, ohx b1, fun k hk => ohx (hlow1 k hk), rfl⟩ fun H2 n2 ⟨b2, b1, hlow2, hn2⟩ => ?_
 subst hn2
 have f9 : (n = n2) = False := oz
 have hpl : ZL.length = 3 := rfl
 have hS2 := YP.drop Qq 2
 refine Xb rfl zs [2, 3] [.c, .q, .c, .q, .q, .w [1], .q, .w [], .m, .q, .q, .w [10], .q] [0, 1, 2, 3, 4, 5, 6, 7, 8, 9, 10, 11, 12] [0, 1, 2, 3, 4, 5, 6, 7, 8, 9, 10, 11, 12] (by kernel_rfl) (fun _ _ _ _ _ h => h) fun K V => ?_
 refine kao ?_
 repeat refine peel ?_
 refine Z7 func14 rfl rfl rfl (fun _ n => (Ub _ _)) ?_
 refine kao ?_
 repeat refine peel ?_
 refine Z7 func17 rfl rfl rfl (fun _ n => (Un _ _)) ?_
 refine kao ?_
 repeat (first | (refine And.intro ?_ ?_; · first | exact ⟨1, rfl, rfl⟩) | refine peel ?_)
 refine cK func18 ((XK (H := H2.put n2 (some (srcN (ZL.drop 2) 0))) (n := n2 + 1) twoF odc q1 q1_fine 99 (ZL.drop 2) 0 hS2 n2 (hG.on (fun k hk => ohx (hlow2 k hk)) om) oh)) ?_ ?_
 ·exact kb4
 intro rr H3 n3 hc
 obtain ⟨hn3, hlo3, hr⟩ := hc
 rw [u1, show (runE twoF q1 99 (some (ZL.drop 2, 0))).1 = pg1 from rfl] at hr
 cases hr
 have b1 : H3 kp = some (.arr 0 3 [pgAV pg0]) := (hlo3 _ om om).trans (ohx b1)
 have hlow3 : ∀ k, k < n → H3 k = H k := fun k hk => (hlo3 k om om).trans (ohx (hlow2 k hk))
 refine kao ?_
 refine kad ?_
 refine rc zs [0] func20 ((Xw _ _ _)) ?_
 refine ar ?_
 refine ⟨_, rfl, fun k hk => ohx (hlow3 k hk), Frz.eq osi trivial⟩
theorem NE80.eqs {P Q : Prop} (g : Imp P Q := by (try simp only [go_sem, seval, hszs, hags, hmos, hszq, hagq, hmoq, hszp, hagp, hmop, f1, f2, f3, f4, f5, Nat.add_assoc, List.length_map, Int.toNat_natCast]); exact N9) : Imp P Q := g
theorem NE90.eqs {P Q : Prop} (g : Imp P Q := by (try simp only [go_sem, seval, hszs, hags, hmos, hszq, hagq, hmoq, hszp, hagp, hmop, f1, f2, f3, b1, b2, b3, m1, m2, g1, g2, e1, Zq, Nat.add_assoc, List.length_map, Int.toNat_natCast]); exact N9) : Imp P Q := g
end Go.Proofs.YtkmkbndcekklmaaGreatDoor
set_option maxRecDepth 10000
namespace Go.Proofs.YtkmkbndcekklmaaGreatDoor
open Go Go.Sx Go.Rt Go.Proofs Go.ChangeShapes Go.WideShapes Go.ChangeAt Go.RowKit Tryz
section
variable {H : Type} {enc : TypeId × Value → H} {W : World}
set_option maxRecDepth 100000 in
theorem argInts {v : Value} {d : DataW H} {ps : List MemPlace} (hv : Value.okWide prog W .any 0 23 v) (h : DataW.Trod enc prog W 0 (fun _ => true) true 23 v d ps) (hb : Rows.uptoBulk d ≤ 1048576) :
   ∃ l : List Int, Rel (c0 W) (Zq l) false [v] ∧ l.length ≤ 1048576 := by
 obtain ⟨a, m, h1, h2, h3⟩ := Q6 rInts h
 obtain ⟨l, rfl, h4⟩ := sInts_av2 h1
 obtain ⟨aa, len, cap, rfl⟩ := okWide_slice underlying23 hv
 exact ⟨l, JR h2 (fun h => by simp [Zq, AV.isAgg] at h) (fun _ => rfl), om⟩
end
theorem Kt {H : Type} (d : DataW H) : 1 ≤ Rows.uptoBulk d := by
 cases d with
 | lit l => exact Xy.lit l
 | nil => exact Xy.nil
 | _ => simp [Rows.uptoBulk]
section
variable {H : Type} {enc : TypeId × Value → H} {W : World}
set_option maxRecDepth 100000 in
theorem argRowsB {v : Value} {d : DataW H} {ps : List MemPlace} (hv : Value.okWide prog W .any 0 26 v) (h : DataW.Trod enc prog W 0 (fun _ => true) true 26 v d ps) (hb : Rows.uptoBulk d ≤ 1048576) :
   ∃ l : List RowE, Rel (c0 W) (.sl 2 (l.map Zg)) false [v] ∧ YP l ∧ l.length + 1 ≤ Rows.uptoBulk d := by
 obtain ⟨a, m, h1, h2, h3⟩ := Q6 rRows h
 obtain ⟨l, rfl, h4, h5⟩ := Q5 (f := Zg) (q := rowQ) (fun a m h => sRow_av2 h) h1
 obtain ⟨aa, len, cap, rfl⟩ := okWide_slice underlying26 hv
 refine ⟨l, JR h2 (fun h => by simp [AV.isAgg] at h) (fun _ => rfl), ⟨om, fun x hx => ?_⟩, om⟩
 obtain ⟨q1, q2, q3⟩ := rowQ_spec (r := x) (m := 1048576) (by have := h5 x hx; omega)
 exact ⟨om, om, fun c hc => by have := q3 c hc; omega⟩
end
end Go.Proofs.YtkmkbndcekklmaaGreatDoor
set_option maxRecDepth 10000
namespace Go.Proofs.YtkmkbndcekklmaaGreatDoor
open Go Go.Sx Go.Rt Go.Proofs
theorem tab_top : ∀ i j : Fin 16, (tabQ ((i.1 : Nat) : Int)).toNat / 268435456 = (tabQ ((j.1 : Nat) : Int)).toNat / 268435456 → i = j := by decide +kernel
def nibS (r c : Nat) : Nat := r / 16 ^^^ nibM (r % 16) (c % 16)
theorem L6 {x y z : Nat} (h : x ^^^ z = y ^^^ z) : x = y := by
 have := congrArg (· ^^^ z) h
 simpa only [Nat.xor_assoc, Nat.xor_self, Nat.xor_zero] using this
theorem Mj {x y z : Nat} (h : z ^^^ x = z ^^^ y) : x = y := L6 (z := z) (by rw [Nat.xor_comm x, Nat.xor_comm y]; exact h)
theorem xor_top (x y : Nat) : (x ^^^ y) / 268435456 = x / 268435456 ^^^ y / 268435456 := by
 have := Nat.shiftRight_xor_distrib (a := x) (b := y) (i := 28)
 simpa [Nat.shiftRight_eq_div_pow] using this
theorem Mc {l e : Nat} (hl : l < 16) (he : e < 16) : nibM l e = (tabQ ((l ^^^ e : Nat) : Int)).toNat := by
 have := (J6 ⟨l, hl⟩ ⟨e, he⟩).1
 simp only at this
 omega
theorem J5 {r r' c c' : Nat} (hr : r < 4294967296) (hr' : r' < 4294967296) (h : nibS r c / 268435456 = nibS r' c' / 268435456) : r % 16 ^^^ c % 16 = r' % 16 ^^^ c' % 16 := by
 unfold nibS at h
 rw [Mc (Nat.mod_lt _ odc) (Nat.mod_lt _ odc), Mc (Nat.mod_lt _ odc) (Nat.mod_lt _ odc), xor_top, xor_top, show r / 16 / 268435456 = 0 by omega, show r' / 16 / 268435456 = 0 by omega, Nat.zero_xor, Nat.zero_xor] at h
 have h1 : r % 16 ^^^ c % 16 < 16 := Nat.xor_lt_two_pow (n := 4) (Nat.mod_lt _ odc) (Nat.mod_lt _ odc)
 have h2 : r' % 16 ^^^ c' % 16 < 16 := Nat.xor_lt_two_pow (n := 4) (Nat.mod_lt _ odc) (Nat.mod_lt _ odc)
 exact congrArg Fin.val (tab_top ⟨_, h1⟩ ⟨_, h2⟩ h)
theorem M5 {r r' c c' : Nat} (h : nibS r c = nibS r' c') (hi : r % 16 ^^^ c % 16 = r' % 16 ^^^ c' % 16) : r / 16 = r' / 16 := by
 unfold nibS at h
 rw [Mc (Nat.mod_lt _ odc) (Nat.mod_lt _ odc), Mc (Nat.mod_lt _ odc) (Nat.mod_lt _ odc), hi] at h
 exact L6 h
theorem Q8 {r c : Nat} (hr : r < 4294967296) : nibS r c < 4294967296 := Nat.xor_lt_two_pow (n := 32) om (J6 ⟨r % 16, Nat.mod_lt _ odc⟩ ⟨c % 16, Nat.mod_lt _ odc⟩).2
theorem QN (r c : Nat) : bit8 r c = nibS (nibS r c) (c / 16) := by
 unfold bit8
 rw [nib, nib]; rfl
theorem Jh {r : Nat} (hr : r < 4294967296) (c : Nat) : bit8 r c < 4294967296 := by rw [QN]; exact Q8 (Q8 hr)
theorem bit8_state {r r' c : Nat} (hr : r < 4294967296) (hr' : r' < 4294967296) (h : bit8 r c = bit8 r' c) : r = r' := by
 rw [QN, QN] at h
 have e1 := J5 (Q8 hr) (Q8 hr') (congrArg (· / 268435456) h)
 have e2 := M5 h e1
 have e3 := L6 e1
 have e4 : nibS r c = nibS r' c := om
 have e5 := J5 hr hr' (congrArg (· / 268435456) e4)
 have e6 := M5 e4 e5
 have e7 := L6 e5
 omega
theorem bit8_byte {r c c' : Nat} (hr : r < 4294967296) (hc : c < 256) (hc' : c' < 256) (h : bit8 r c = bit8 r c') : c = c' := by
 rw [QN, QN] at h
 have e1 := J5 (Q8 hr) (Q8 hr) (congrArg (· / 268435456) h)
 have e2 := M5 h e1
 have e3 : nibS r c / 268435456 = nibS r c' / 268435456 := om
 have e4 := Mj (J5 hr hr e3)
 have e5 : nibS r c = nibS r c' := by unfold nibS; rw [e4]
 rw [e5] at e1
 have e6 := Mj e1
 omega
def crcN (r : Nat) (l : List UInt8) : Nat := l.foldl (fun r b => bit8 r b.toNat) r
theorem Mh : ∀ (l : List UInt8) {r : Nat}, r < 4294967296 → crcN r l < 4294967296
 | [], _, h => h
 | b :: l, r, h => Mh l (Jh h _)
theorem sumP_crc : ∀ (l : List UInt8) {r : Nat}, r < 4294967296 → sumP (r : Int) l = ((crcN r l : Nat) : Int)
 | [], _, _ => rfl
 | b :: l, r, h => by
   unfold sumP crcN
   rw [List.foldl_cons, List.foldl_cons, (sumS_bit h b).1]
   exact sumP_crc l (Jh h _)
theorem crcN_inj : ∀ (l : List UInt8) {r r' : Nat}, r < 4294967296 → r' < 4294967296 → crcN r l = crcN r' l → r = r'
 | [], _, _, _, _, h => h
 | b :: l, r, r', h, h', e => bit8_state h h' (crcN_inj l (Jh h _) (Jh h' _) e)
theorem Ms (b : List UInt8) : sumF [b] = ((4294967295 ^^^ crcN 4294967295 b : Nat) : Int) := by
 unfold sumF
 rw [List.foldl_cons, List.foldl_nil, show (4294967295 : Int) = ((4294967295 : Nat) : Int) from rfl, sumP_crc b odc, xor32 odc (Mh b odc)]
theorem sumF_turn (l1 l2 : List UInt8) {x y : UInt8} (h : sumF [l1 ++ x :: l2] = sumF [l1 ++ y :: l2]) : x = y := by
 rw [Ms, Ms] at h
 have h1 := Mj (Int.ofNat.inj h)
 have key : ∀ z : UInt8, crcN 4294967295 (l1 ++ z :: l2) = crcN (bit8 (crcN 4294967295 l1) z.toNat) l2 := fun z => by unfold crcN; rw [List.foldl_append, List.foldl_cons]
 rw [key, key] at h1
 have hc : crcN 4294967295 l1 < 4294967296 := Mh l1 odc
 exact UInt8.toNat_inj.1 (bit8_byte hc x.toNat_lt y.toNat_lt (crcN_inj l2 (Jh hc _) (Jh hc _) h1))
theorem sumF_lt (b : List UInt8) : 0 ≤ sumF [b] ∧ sumF [b] < 4294967296 := by
 rw [Ms]
 have : 4294967295 ^^^ crcN 4294967295 b < 4294967296 := Nat.xor_lt_two_pow (n := 32) odc (Mh b odc)
 omega
theorem byteI_mod {v : Int} (hv : 0 ≤ v) : ((Z0 v).toNat : Int) = v % 256 := by
 unfold Z0
 simp; omega
theorem lowB_inj {v w : Int} (hv : 0 ≤ v ∧ v < 4294967296) (hw : 0 ≤ w ∧ w < 4294967296) (h : lowB v = lowB w) : v = w := by
 unfold lowB at h
 simp only [List.cons.injEq, and_true] at h
 obtain ⟨h1, h2, h3, h4⟩ := h
 have k : ∀ a b : Int, 0 ≤ a → 0 ≤ b → Z0 a = Z0 b → a % 256 = b % 256 := fun a b ha hb e => by rw [← byteI_mod ha, ← byteI_mod hb, e]
 have k1 := k _ _ om om h1
 have k2 := k _ _ om om h2
 have k3 := k _ _ om om h3
 have k4 := k _ _ om om h4
 omega
theorem XY (b : List UInt8) : (Z9 b).length = b.length + 12 := by simp [Z9, Yq, lowB]
theorem frameB_set {b c : List UInt8} {i : Nat} {x : UInt8} (h : Z9 c = (Z9 b).set i x) : Z9 c = Z9 b := by
 have hl : c.length = b.length := by have := congrArg List.length h; rw [List.length_set, XY, XY] at this; omega
 have key : ∀ b : List UInt8, Z9 b = Yq b.length ++ lowB (sumF [Yq b.length]) ++ (b ++ lowB (sumF [b])) := fun b => by unfold Z9; rw [List.append_assoc]
 have h8 : ∀ n, (Yq n ++ lowB (sumF [Yq n])).length = 8 := fun n => by simp [Yq, lowB]
 have hb : c = b := by
   have e1 : (Z9 c).drop 8 = c ++ lowB (sumF [c]) := by rw [key, List.drop_left' (h8 _)]
   have e2 : (Z9 b).drop 8 = b ++ lowB (sumF [b]) := by rw [key, List.drop_left' (h8 _)]
   have e3 : c ++ lowB (sumF [c]) = if i < 8 then b ++ lowB (sumF [b]) else (b ++ lowB (sumF [b])).set (i - 8) x := by
     rw [← e1, h, List.drop_set, e2]
   by_cases hi : i < 8
   ·rw [if_pos hi] at e3; exact (List.append_inj e3 hl).1
   ·rw [if_neg hi] at e3
    by_cases hj : i - 8 < b.length
    ·rw [List.set_append_left _ _ hj] at e3
     obtain ⟨f1, f2⟩ := List.append_inj e3 (by simpa using hl)
     have f3 := lowB_inj (sumF_lt c) (sumF_lt b) f2
     have s1 : b = b.take (i - 8) ++ b[i - 8] :: b.drop (i - 8 + 1) := by rw [List.getElem_cons_drop, List.take_append_drop]
     have s2 : c = b.take (i - 8) ++ x :: b.drop (i - 8 + 1) := by rw [f1, List.set_eq_take_append_cons_drop, if_pos hj]
     rw [s2, s1] at f3
     have s3 : x = b[i - 8] := by
       have t1 : (b.take (i - 8) ++ b[i - 8] :: b.drop (i - 8 + 1)).take (i - 8) = b.take (i - 8) := by rw [← s1]
       have t2 : (b.take (i - 8) ++ b[i - 8] :: b.drop (i - 8 + 1)).drop (i - 8 + 1) = b.drop (i - 8 + 1) := by rw [← s1]
       rw [t1, t2] at f3
       exact sumF_turn _ _ f3
     rw [s2, s3]; exact s1.symm
    ·rw [List.set_append_right _ _ om] at e3
     exact (List.append_inj e3 hl).1
 rw [hb]
theorem rfQ_frame {b : List UInt8} (hb : b.length ≤ 1048576) : rfQ (Z9 b) = (b, ((8 + b.length + 4 : Nat) : Int), 0) := by
 have hl := XY b
 have hN : hd4 (Z9 b) = b.length := by
   rw [hd4_num om, List.drop_zero]
   have : (Z9 b).take 4 = Yq b.length := by unfold Z9; rw [List.append_assoc, List.append_assoc]; rfl
   rw [this, head_num om]
 have d4 : (Z9 b).take 4 = Yq b.length := by unfold Z9; rw [List.append_assoc, List.append_assoc]; rfl
 have d5 : ((Z9 b).drop 4).take 4 = lowB (sumF [Yq b.length]) := by unfold Z9; rw [List.append_assoc, List.append_assoc]; rfl
 have d8 : (Z9 b).drop 8 = b ++ lowB (sumF [b]) := by unfold Z9; rw [List.append_assoc, List.append_assoc]; rfl
 have d9 : (Z9 b).drop (8 + b.length) = lowB (sumF [b]) := by rw [← List.drop_drop, d8, List.drop_left]
 have l4 : ∀ v, (lowB v).take 4 = lowB v := fun v => rfl
 unfold rfQ
 rw [hN]
 unfold rfN
 rw [if_neg om, d5, d4, if_neg osi, if_neg om, if_neg om, d9, d8, List.take_left, l4, if_neg osi]
theorem rbB_B {b : List UInt8} {p most : Nat} {x w : List UInt8} (hx : x.length ≤ most) (hm : most < 18446744073709551616) (hp : p ≤ b.length) (hd : b.drop p = Zk x ++ w) : rbB b p most = (x, p + (Zk x).length, 0) := by
 unfold Zk at hd
 rw [List.append_assoc] at hd
 have e := ruB_B (v := x.length) om hp hd
 have hl := congrArg List.length hd
 simp only [List.length_drop, List.length_append] at hl
 have hu : 1 ≤ (Zh x.length).length := by rw [Zh]; split <;> simp
 have d2 : b.drop (p + (Zh x.length).length) = x ++ w := by rw [← List.drop_drop, hd, List.drop_left]
 unfold rbB
 rw [if_neg om, e]
 simp only
 rw [if_neg osi, if_neg om, if_neg om, d2, List.take_left]
 unfold Zk
 rw [List.length_append, Nat.add_assoc]
theorem X9 {v : Int} (h0 : 0 ≤ v) (h1 : v < 18446744073709551616) : ((u64 v : Nat) : Int) = v := by unfold u64; omega
theorem tokB_len (q : QryE) (t : Int) (row : List UInt8) (h : row.length ≤ 256) : (tokB q t row).length ≤ 300 := by
 unfold tokB
 rw [XY]
 have h1 := Zl (Z4 t)
 have h2 := Zl (Z4 (sumF [YE q]))
 have h3 := Zl (v := row.length) om
 unfold Zk
 simp only [List.length_append]
 omega
theorem readQ_tok {q : QryE} {t : Int} {row : List UInt8} (h : q.token = tokB q t row) (t1 : 1 ≤ t) (t2 : t ≤ 1099511627776) (hq : q.time = 0 ∨ q.time = t) (r1 : row.length ≠ 0) (r2 : row.length ≤ 256) (ha : Y6 q row = true) : ZN q = (t, row, 0) := by
 have e0 : ((u64 t : Nat) : Int) = t := X9 om om
 have hl := XY (Zh (u64 t) ++ Zk row ++ Zh (u64 (sumF [YE q])))
 have h1 := Zl (Z4 t)
 have h2 := Zl (Z4 (sumF [YE q]))
 have h3 := Zl (v := row.length) om
 have hb : (Zh (u64 t) ++ Zk row ++ Zh (u64 (sumF [YE q]))).length ≤ 1048576 := by unfold Zk; simp only [List.length_append]; omega
 have er : rfQ q.token = (Zh (u64 t) ++ Zk row ++ Zh (u64 (sumF [YE q])), ((8 + (Zh (u64 t) ++ Zk row ++ Zh (u64 (sumF [YE q]))).length + 4 : Nat) : Int), 0) := by rw [h]; exact rfQ_frame hb
 have eu := ruB_B (b := Zh (u64 t) ++ Zk row ++ Zh (u64 (sumF [YE q]))) (p := 0) (v := u64 t) (w := Zk row ++ Zh (u64 (sumF [YE q]))) (Z4 t) (Nat.zero_le _) (by rw [List.drop_zero, List.append_assoc])
 rw [Nat.zero_add] at eu
 have eb := rbB_B (b := Zh (u64 t) ++ Zk row ++ Zh (u64 (sumF [YE q]))) (p := (Zh (u64 t)).length) (most := 256) (x := row) (w := Zh (u64 (sumF [YE q]))) r2 om (by simp only [List.length_append]; omega) (by rw [List.append_assoc, List.drop_left])
 unfold ZN
 rw [if_neg (by rw [h]; unfold tokB; omega), er]
 simp only
 rw [if_neg osi, eu]
 simp only
 have hu : q.time ≠ 0 → u64 t = u64 q.time := fun hz => by rw [hq.resolve_left hz]
 rw [if_neg (by
   rintro (a | a | a | ⟨a, b⟩)
   ·exact a rfl
   ·omega
   ·omega
   ·exact b (hu a)), eb]
 simp only
 rw [if_neg (by
   rintro (a | a | a | a)
   ·exact a rfl
   ·exact r1 a
   ·rw [ha] at a; cases a
   ·rw [e0, ← h, beq_self_eq_true] at a; cases a), e0]
theorem readQ_is {q : QryE} (h : (ZN q).2.2 = 0) (h0 : q.token ≠ []) : q.token = tokB q (ZN q).1 (ZN q).2.1 := by
 unfold ZN at h ⊢
 have hl : q.token.length ≠ 0 := fun e => h0 (List.length_eq_zero_iff.1 e)
 rw [if_neg hl] at h ⊢
 split at h
 ·exact absurd h odc
 rename_i c1
 rw [if_neg c1]
 split at h
 ·exact absurd h odc
 rename_i c2
 rw [if_neg c2]
 split at h
 ·exact absurd h odc
 rename_i c3
 rw [if_neg c3]
 simp only
 have : (tokB q (ruB (rfQ q.token).1 0).1 (rbB (rfQ q.token).1 (ruB (rfQ q.token).1 0).2.1 256).1 == q.token) = true := by
   cases hh : (tokB q (ruB (rfQ q.token).1 0).1 (rbB (rfQ q.token).1 (ruB (rfQ q.token).1 0).2.1 256).1 == q.token)
   ·exact absurd (.inr (.inr (.inr hh))) c3
   ·rfl
 exact (eq_of_beq this).symm
theorem readQ_err (q : QryE) : (ZN q).2.2 = 0 ∨ (ZN q).2.2 = 132 := by
 unfold ZN
 split
 ·exact .inl rfl
 split
 ·exact .inr rfl
 split
 ·exact .inr rfl
 split
 ·exact .inr rfl
 ·exact .inl rfl
theorem readQ_turn {q : QryE} {q0 : QryE} {t : Int} {row : List UInt8} {i : Nat} {c : UInt8} (h : q.token = (tokB q0 t row).set i c) (hf : YE q = YE q0) (hne : q.token ≠ tokB q0 t row) : (ZN q).2.2 = 132 := by
 rcases readQ_err q with e | e
 ·exfalso
  have hl : (tokB q0 t row).length ≠ 0 := by unfold tokB; rw [XY]; omega
  have h0 : q.token ≠ [] := fun e => by rw [e] at h; exact hl (by rw [← List.length_set, ← h]; rfl)
  have hi := readQ_is e h0
  rw [h] at hi
  unfold tokB at hi
  have := frameB_set hi.symm
  apply hne
  rw [h]
  unfold tokB
  rw [hi]; exact this
 ·exact e
def dirB (rev : Bool) (a b : List UInt8) : Prop := if rev then Lib.compareBytes b a < 0 else Lib.compareBytes a b < 0
instance (rev : Bool) (a b : List UInt8) : Decidable (dirB rev a b) := by unfold dirB; infer_instance
def Vk (nf : Nat) (x : RowE) : Prop := x.row.length ≠ 0 ∧ x.row.length ≤ 256 ∧ WR nf x.cells = false
def visB (q : QryE) (t : Option Tst) (x : RowE) : Bool := Y6 q x.row && decide (Yx q t x.cells ≠ [])
def visR (q : QryE) (t : Option Tst) (x : RowE) : RowE := ⟨x.row, Yx q t x.cells⟩
def visL (q : QryE) (t : Option Tst) (l : List RowE) : List RowE := (l.filter (visB q t)).map (visR q t)
def XJ (q : QryE) (start : List UInt8) (has : Bool) (row : List UInt8) : Bool := !has || (if q.rev then decide (Lib.compareBytes row start < 0) else decide (0 ≤ Lib.compareBytes row start))
theorem dirB_tr {rev : Bool} {a b c : List UInt8} (h : dirB rev a b) (h' : dirB rev b c) : dirB rev a c := by
 unfold dirB at *
 cases rev
 ·simp only [Bool.false_eq_true, if_false] at *; exact QA h om
 ·simp only [if_true] at *; exact QA h' om
theorem dirB_irr {rev : Bool} {a : List UInt8} (h : dirB rev a a) : False := by
 have := (U0 a a).2 rfl
 unfold dirB at h
 cases rev
 ·simp only [Bool.false_eq_true, if_false] at h; omega
 ·simp only [if_true] at h; omega
theorem beyond_on {q : QryE} {a b : List UInt8} (h : dirB q.rev a b) (ha : Wq q a = true) : Wq q b = true := by
 unfold Wq dirB at *
 cases hr : q.rev
 ·rw [hr] at h ha
  simp only [Bool.false_eq_true, if_false] at h
  simp only [Bool.not_false, Bool.true_and, Bool.false_and, Bool.or_false, Bool.and_eq_true, decide_eq_true_eq] at ha ⊢
  refine ⟨ha.1, ?_⟩
  have a1 := cb_ge.1 ha.2
  have := cb_neg.1 (cb_le_lt a1 h)
  omega
 ·rw [hr] at h ha
  simp only [if_true] at h
  simp only [Bool.not_true, Bool.false_and, Bool.false_or, Bool.true_and, decide_eq_true_eq] at ha ⊢
  exact QA h om
section
variable {nf : Nat} {q : QryE} {t : Option Tst} {tk : List UInt8 → List UInt8} {start : List UInt8} {has : Bool}
theorem comes_of {x : RowE} (hx : Vk nf x) (ha : XJ q start has x.row = true) {last : Option (List UInt8)} (hl : ∀ r, last = some r → dirB q.rev r x.row) : Nw nf q x last start has = true := by
 obtain ⟨h1, h2, h3⟩ := hx
 unfold Nw
 unfold XJ at ha
 rw [decide_eq_false om, h3, ha]
 cases last with
 | none => rfl
 | some r =>
   have := hl r rfl
   unfold dirB at this
   cases hr : q.rev
   ·rw [hr] at this
    simp only [Bool.false_eq_true, if_false] at this ⊢
    have := cb_neg.1 this
    simp [this]
   ·rw [hr] at this
    simp only [if_true] at this ⊢
    simp [this]
def JC (q : QryE) (tk : List UInt8 → List UInt8) (v : List RowE) : PgE :=
 if (v.length : Int) < q.rows then ⟨v, [], true⟩ else ⟨v.take q.rows.toNat, tk (v.getD (q.rows.toNat - 1) default).row, false⟩
theorem MB (hs : Q3 q start has) : ∀ (l : List RowE) (m : Nat) (last : Option (List UInt8)) (acc : List RowE), (∀ x ∈ l, Vk nf x ∧ XJ q start has x.row = true) →
   l.Pairwise (fun a b => dirB q.rev a.row b.row) → (∀ r, last = some r → ∀ x ∈ l, dirB q.rev r x.row) → (acc.length : Int) < q.rows →
   ∃ m', runG nf q t tk start has 0 m last acc l = (JC q tk (acc ++ visL q t l), m', 0)
 | [], m, last, acc, _, _, _, hk => by
   refine ⟨m + 1, ?_⟩
   unfold runG JC visL
   simp only [List.filter_nil, List.map_nil, List.append_nil]
   rw [if_neg osi, if_pos hk]
 | x :: l, m, last, acc, hg, hp, hl, hk => by
   obtain ⟨hx, ha⟩ := hg x osi
   have hc0 := comes_of (last := none) hx ha (fun r h => by cases h)
   have hc : YT q x.row last start has = true ∧ WR nf x.cells = false := by
     refine ⟨?_, hx.2.2⟩
     unfold YT
     rw [if_neg (by have := hx.1; have := hx.2.1; omega)]
     cases last with
     | none =>
       unfold XJ at ha
       cases has with
       | false => simp
       | true => cases hr : q.rev <;> rw [hr] at ha <;> simpa using ha
     | some r =>
       have := hl r rfl x osi
       unfold dirB at this
       cases hr : q.rev
       ·rw [hr] at this
        simp only [Bool.false_eq_true, if_false] at this ⊢
        simpa using cb_neg.1 this
       ·rw [hr] at this
        simp only [if_true] at this ⊢
        simpa using this
   have hb := LG hs hc0
   have hg2 : ∀ y ∈ l, Vk nf y ∧ XJ q start has y.row = true := fun y hy => hg y (by simp [hy])
   have hp1 := (List.pairwise_cons.1 hp).1
   have hp2 := (List.pairwise_cons.1 hp).2
   have hl2 : ∀ r, some x.row = some r → ∀ y ∈ l, dirB q.rev r y.row := fun r hr y hy => by cases hr; exact hp1 y hy
   unfold runG
   rw [if_neg (by rw [hc.1]; simp), if_neg (by rw [hc.2]; simp)]
   by_cases hy : Wq q x.row = true
   ·rw [if_pos hy]
    have hall : ∀ y ∈ x :: l, visB q t y = false := fun y hm => by
      have e : Y6 q y.row = false := by
        rcases List.mem_cons.1 hm with rfl | hm
        ·rw [hy] at hb; simpa using hb
        ·have h1 := beyond_on (hp1 y hm) hy
         have h2 := LG hs (comes_of (last := none) (hg2 y hm).1 (hg2 y hm).2 (fun r h => by cases h))
         rw [h1] at h2; simpa using h2
      unfold visB; rw [e]; rfl
    have hv : visL q t (x :: l) = [] := by
      unfold visL
      rw [List.filter_eq_nil_iff.2 fun y hm => by rw [hall y hm]; simp]; rfl
    refine ⟨m + 1, ?_⟩
    unfold JC
    rw [hv, List.append_nil, if_pos hk]
   ·rw [if_neg hy]
    have hask : Y6 q x.row = true := by
      cases h : Y6 q x.row
      ·rw [h] at hb; exact absurd osb hy
      ·rfl
    by_cases he : Yx q t x.cells = []
    ·rw [if_pos he]
     have hv : visL q t (x :: l) = visL q t l := by
       unfold visL
       rw [List.filter_cons_of_neg (by unfold visB; rw [hask, he]; simp)]
     rw [hv]
     exact MB hs l (m + 1) (some x.row) acc hg2 hp2 hl2 hk
    ·rw [if_neg he]
     have hv : visL q t (x :: l) = visR q t x :: visL q t l := by
       unfold visL
       rw [List.filter_cons_of_pos (by unfold visB; rw [hask, decide_eq_true he]; rfl), List.map_cons]
     by_cases hr : ((acc.length + 1 : Nat) : Int) = q.rows
     ·rw [if_pos hr]
      refine ⟨m + 1, ?_⟩
      have hn : q.rows.toNat = acc.length + 1 := om
      have hlt : ¬ ((acc ++ visL q t (x :: l)).length : Int) < q.rows := by rw [hv, List.length_append, List.length_cons]; omega
      unfold JC
      rw [if_neg hlt, hv, hn]
      have e1 : (acc ++ visR q t x :: visL q t l).take (acc.length + 1) = acc ++ [visR q t x] := by rw [List.take_append, List.take_of_length_le om]; simp
      have e2 : (acc ++ visR q t x :: visL q t l).getD (acc.length + 1 - 1) default = visR q t x := by simp [List.getD]
      rw [e1, e2]; rfl
     ·rw [if_neg hr]
      have := MB hs l (m + 1) (some x.row) (acc ++ [visR q t x]) hg2 hp2 hl2 (by rw [List.length_append]; simp; omega)
      rw [hv]
      rw [List.append_assoc, List.singleton_append] at this
      exact this
end
def dirL (q : QryE) (l : List RowE) : List RowE := if q.rev then l.reverse else l
def Vi (q : QryE) (l : List RowE) : List RowE := (dirL q l).filter fun x => XJ q (ZC q).1 (ZC q).2.1 x.row
def upL (l : List RowE) : Prop := l.Pairwise fun a b => Lib.compareBytes a.row b.row < 0
theorem dirL_up {q : QryE} {l : List RowE} (h : upL l) : (dirL q l).Pairwise fun a b => dirB q.rev a.row b.row := by
 unfold dirL dirB
 cases q.rev
 ·simp only [Bool.false_eq_true, if_false]; exact h
 ·simp only [if_true]
  rw [List.pairwise_reverse]; exact h
theorem Kh {q : QryE} {l : List RowE} {x : RowE} : x ∈ dirL q l ↔ x ∈ l := by
 unfold dirL; split
 ·exact List.mem_reverse
 ·exact Iff.rfl
def allV (q : QryE) (t : Option Tst) (l : List RowE) : List RowE := visL q t (dirL q l)
theorem visL_up {q : QryE} {t : Option Tst} {l : List RowE} (h : l.Pairwise fun a b => dirB q.rev a.row b.row) : (visL q t l).Pairwise fun a b => dirB q.rev a.row b.row := by
 unfold visL
 rw [List.pairwise_map]
 exact h.sublist List.filter_sublist
theorem allV_up {q : QryE} {t : Option Tst} {l : List RowE} (h : upL l) : (allV q t l).Pairwise fun a b => dirB q.rev a.row b.row := visL_up (dirL_up h)
theorem visL_from {q : QryE} {t : Option Tst} {l : List RowE} : visL q t (Vi q l) = (allV q t l).filter fun y => XJ q (ZC q).1 (ZC q).2.1 y.row := by
 unfold visL Vi allV visL
 rw [List.filter_map, List.filter_filter, List.filter_filter]
 congr 1
 exact List.filter_congr fun x _ => by rw [Bool.and_comm]; rfl
theorem cb_snoc0 (x r : List UInt8) : 0 ≤ Lib.compareBytes x (r ++ [0]) ↔ Lib.compareBytes r x < 0 := by
 induction r generalizing x with
 | nil =>
   cases x with
   | nil => simp [Lib.compareBytes]
   | cons a x =>
     show 0 ≤ (if a < 0 then (-1 : Int) else if 0 < a then 1 else Lib.compareBytes x []) ↔ (-1 : Int) < 0
     have h0 : ¬ a < 0 := osi
     rw [if_neg h0]
     have := cb_nil x
     split <;> simp_all
 | cons b r ih =>
   cases x with
   | nil => simp [Lib.compareBytes]
   | cons a x =>
     rw [List.cons_append, Jf, Jf]
     by_cases h1 : a < b
     ·have h2 : ¬ b < a := fun h => absurd (UInt8.lt_trans h1 h) (UInt8.lt_irrefl _)
      rw [if_pos h1, if_neg h2, if_pos h1]; decide
     ·rw [if_neg h1]
      by_cases h2 : b < a
      ·rw [if_pos h2, if_pos h2]; decide
      ·rw [if_neg h2, if_neg h2, if_neg h1]; exact ih x
theorem from_none {q : QryE} {t : Option Tst} {l : List RowE} (h : q.token = []) : visL q t (Vi q l) = allV q t l := by
 rw [visL_from]
 refine List.filter_eq_self.2 fun y hy => ?_
 have hr : ZN q = (0, [], 0) := by unfold ZN; rw [if_pos (by rw [h]; rfl)]
 have ha : Y6 q y.row = true := by
   unfold allV visL at hy
   obtain ⟨x, hx, rfl⟩ := List.mem_map.1 hy
   have := (List.mem_filter.1 hx).2
   unfold visB at this
   simp only [Bool.and_eq_true] at this
   exact this.1
 unfold Y6 at ha
 simp only [Bool.and_eq_true, Bool.or_eq_true, decide_eq_true_eq] at ha
 unfold XJ ZC
 rw [hr]
 simp only
 rw [if_neg osi, if_neg osi]
 cases hv : q.rev
 ·simp only [Bool.false_eq_true, if_false]
  simp [ha.1]
 ·simp only [if_true]
  rcases ha.2 with h1 | h1
  ·simp [h1]
  ·simp [h1]
theorem from_tok {q : QryE} {t : Option Tst} {l : List RowE} {tm : Int} {r : List UInt8} (h : ZN q = (tm, r, 0)) (h1 : 1 ≤ tm) : visL q t (Vi q l) = (allV q t l).filter fun y => decide (dirB q.rev r y.row) := by
 rw [visL_from]
 refine List.filter_congr fun y _ => ?_
 unfold XJ ZC dirB
 rw [h]
 simp only
 rw [if_neg osi, if_pos om]
 cases hv : q.rev
 ·simp only [Bool.false_eq_true, if_false, Bool.not_true, Bool.false_or]
  exact decide_eq_decide.2 (cb_snoc0 _ _)
 ·simp
theorem Jr {α : Type} {R : α → α → Prop} [DecidableRel R] (tr : ∀ a b c, R a b → R b c → R a c) (ir : ∀ a, ¬ R a a) : ∀ (V : List α) (j : Nat) (hj : j < V.length), V.Pairwise R → V.filter (fun y => decide (R V[j] y)) = V.drop (j + 1)
 | [], j, hj, _ => by simp at hj
 | a :: V, 0, _, h => by
   obtain ⟨h1, h2⟩ := List.pairwise_cons.1 h
   simp only [List.getElem_cons_zero, List.drop_succ_cons, List.drop_zero]
   rw [List.filter_cons_of_neg (by simp [ir a])]
   exact List.filter_eq_self.2 fun y hy => decide_eq_true (h1 y hy)
 | a :: V, j + 1, hj, h => by
   obtain ⟨h1, h2⟩ := List.pairwise_cons.1 h
   simp only [List.getElem_cons_succ, List.drop_succ_cons]
   have hj' : j < V.length := by simpa using hj
   have hn : ¬ R V[j] a := fun e => ir _ (tr _ _ _ e (h1 V[j] (List.getElem_mem hj')))
   rw [List.filter_cons_of_neg (by simp [hn])]
   exact Jr tr ir V j hj' h2
theorem from_at {q : QryE} {t : Option Tst} {l : List RowE} {tm : Int} {j : Nat} (hl : upL l) (hj : j < (allV q t l).length) (h : ZN q = (tm, (allV q t l)[j].row, 0)) (h1 : 1 ≤ tm) : visL q t (Vi q l) = (allV q t l).drop (j + 1) := by
 rw [from_tok h h1]
 exact Jr (R := fun a b : RowE => dirB q.rev a.row b.row) (fun a b c => dirB_tr) (fun a => dirB_irr) _ j hj (allV_up hl)
theorem run_from {fs : List Fml} {q : QryE} {clock : Int} {l : List RowE} (hq : qcE fs q = 0) (hc : 1 ≤ clock ∧ clock ≤ 1099511627776) (hl : upL l) (hg : ∀ x ∈ l, Vk fs.length x) :
   ∃ m, runE fs q clock (some (Vi q l, 0)) = (JC q (tokB q (atE q clock).1) (visL q (Yu fs q) (Vi q l)), m, 0) := by
 have hr : (ZN q).2.2 = 0 := by
   unfold qcE at hq
   split at hq
   ·rename_i h; exact absurd hq h
   split at hq
   ·exact absurd hq odc
   split at hq
   ·rename_i h; exact absurd hq h.2
   ·exact hq
 have hrows : 1 ≤ q.rows := by
   unfold qcE at hq
   split at hq
   ·rename_i h; exact absurd hq h
   split at hq
   ·exact absurd hq odc
   rename_i h
   have h : Yl fs.length q = true := by simpa using h
   unfold Yl VJ at h
   simp only [Bool.and_eq_true, decide_eq_true_eq] at h
   omega
 have ha : (atE q clock).2 = 0 := by
   unfold atE
   rw [if_neg om, if_neg (by rw [hr]; simp)]
   split
   ·rfl
   ·split <;> rfl
 unfold runE
 rw [if_neg (by rw [hq]; simp), if_neg (by rw [ha]; simp)]
 obtain ⟨m, hm⟩ := MB (nf := fs.length) (t := Yu fs q) (tk := tokB q (atE q clock).1) (startE_ok q hr) (Vi q l) 0 none []
   (fun x hx => by
     obtain ⟨h1, h2⟩ := List.mem_filter.1 hx
     exact ⟨hg x (Kh.1 h1), h2⟩)
   ((dirL_up hl).sublist List.filter_sublist) (fun r h => by cases h) oz
 exact ⟨m, hm⟩
end Go.Proofs.YtkmkbndcekklmaaGreatDoor
set_option maxRecDepth 10000
namespace Go.Proofs.YtkmkbndcekklmaaGreatDoor
open Go Go.Sx Go.Rt Go.Proofs Tryz
def Qp (q : QryE) : QryE := { q with token := [], rows := 1000 }
def qBare (q : QryE) : QryE := { Qp q with fams := [], whr := [] }
def qZero (b : Bool) : QryE := { frm := [], to := [], fams := [], pre := [], time := 0, n := 1, rows := 1000, rev := b, whr := [], token := [] }
def V7 (fs : List Fml) (q : QryE) : QryE :=
 if qcE fs (Qp q) = 0 then Qp q else if qcE fs (qBare q) = 0 then qBare q else qZero q.rev
theorem UT {q : QryE} (h : q.fine) : (Qp q).fine := ⟨h.frm, h.to, h.fams, h.pre, h.whr, Nat.zero_le _⟩
theorem JB {q : QryE} (h : q.fine) : (qBare q).fine := ⟨h.frm, h.to, Nat.zero_le _, h.pre, Nat.zero_le _, Nat.zero_le _⟩
theorem qZero_fine (b : Bool) : (qZero b).fine := ⟨Nat.zero_le _, Nat.zero_le _, Nat.zero_le _, Nat.zero_le _, Nat.zero_le _, Nat.zero_le _⟩
theorem goodE_fine {fs : List Fml} {q : QryE} (h : q.fine) : (V7 fs q).fine := by
 unfold V7
 split
 ·exact UT h
 ·split
  ·exact JB h
  ·exact qZero_fine _
theorem Lt (fs : List Fml) (q : QryE) : (V7 fs q).token = [] := by unfold V7; split; rfl; split <;> rfl
theorem qZero_good {fs : List Fml} (h : Zv fs = 0) (b : Bool) : qcE fs (qZero b) = 0 := by
 unfold qcE
 rw [if_neg (by simp [h]), if_neg (by cases b <;> simp [Yl, U9, Uh, VJ, qZero]), if_neg (by rintro ⟨a, _⟩; simp [qZero] at a)]
 rfl
theorem Nh {fs : List Fml} (h : Zv fs = 0) (q : QryE) : qcE fs (V7 fs q) = 0 := by
 unfold V7
 split
 ·assumption
 ·split
  ·assumption
  ·exact qZero_good h _
theorem wk_qa {q : QryE} {f t m p k : AV} (hf : Wk f (bys q.frm)) (ht : Wk t (bys q.to)) (hm : Wk m (Zq q.fams)) (hp : Wk p (bys q.pre)) (hk : Wk k (bys q.token)) : WkL [qaX q f t m p k] [Zf q] :=
 ⟨Wk.agg ⟨hf, ht, hm, hp, .refl _, .refl _, .refl _, .refl _, .refl _, hk, trivial⟩, trivial⟩
theorem NT40.eqs {P Q : Prop} (g : Imp P Q := by (try simp only [go_sem, seval, hszs, hags, hmos, hnum, hnua, hnum2, hszq, hagq, hmoq, f1, f2, f3, f4, f5, f6, b1, b2, b3]); exact N9) : Imp P Q := g
theorem NT40.inz {P Q : Prop} (g : Imp P Q := by refine Imp.up eqs ?_; (repeat refine Imp.pl ?_); exact N9) : Imp P Q := g
set_option maxHeartbeats 3200000 in
open NT40 in
theorem Kq (fs : List Fml) (hfs : fs.length ≤ 1048576) (q : QryE) (hq : q.fine) {H : Heap} {n : Nat} : Ret prog 13 [Zi fs, Zf q] H n (Zf (V7 fs q)) H n := by
 have hszs : (Zi fs).sz = 1 := rfl
 have hags : (Zi fs).isAgg = true := rfl
 have hmos : (Zi fs).memOK = true := rfl
 have hszq : ∀ q, (Zf q).sz = 10 := Z5
 have hagq : ∀ q, (Zf q).isAgg = true := fun _ => rfl
 have hmoq : ∀ q, (Zf q).memOK = true := fun _ => rfl
 have hnum : ∀ l, (Zq l).sz = 1 := fun _ => rfl
 have hnua : ∀ l, (Zq l).isAgg = false := fun _ => rfl
 have hnum2 : ∀ l, (Zq l).memOK = true := fun _ => rfl
 have f1 : (n = n + 1) = False := by simp
 have f2 : (n + 1 = n) = False := by simp
 have f3 : (n = n + 2) = False := by simp
 have f4 : (n + 1 = n + 2) = False := by simp
 have f5 : (n + 2 = n) = False := by simp
 have f6 : (n + 2 = n + 1) = False := by simp
 have b1 := hszs
 have b2 := hszs
 have b3 := hszs
 obtain ⟨z, hz⟩ : ∃ z, z = V7 fs q := ⟨_, rfl⟩
 rw [← hz]
 unfold V7 at hz
 refine Ret.fin ?_
 refine fw func13 ntmps13 results13 ?_
 refine rg zs [2, 3, 4] ?_
 refine rk zs [2, 3, 4] fun K V => ?_
 refine ck func32 ((NL q hq _ _)) ?_
 apply V; clear V K
 refine Ze zs [2, 3, 4] fun K V => ?_
 try simp only [go_sem, seval, hszs, hags, hmos, hnum, hnua, hnum2, hszq, hagq, hmoq, f1, f2, f3, f4, f5, f6, b1, b2, b3, Zf]
 repeat refine peel ?_
 apply V; clear V K
 refine Ze zs [2, 3, 4] fun K V => ?_
 try simp only [go_sem, seval, hszs, hags, hmos, hnum, hnua, hnum2, hszq, hagq, hmoq, f1, f2, f3, f4, f5, f6, b1, b2, b3, Zf]
 repeat refine peel ?_
 apply V; clear V K
 refine ZV [2, 3, 4] (fun T' H' n' => ∃ (a : AV) (q2 : QryE) (o : AV), T' = tl [(2, .loc n 0 0 0 []), (3, .loc (n + 1) 0 0 0 []), (4, .loc (n + 2) 0 0 0 [])] ∧ H' n = some (.arr 0 1 [Zi fs]) ∧ H' (n + 1) = some (.arr 0 10 [qaX q2 (bys q2.frm) (bys q2.to) a (bys q2.pre) (bys q2.token)]) ∧ Wk a (Zq q2.fams) ∧ q2.fine ∧ (z = if qcE fs q2 = 0 then q2 else qZero q.rev) ∧ q2.rev = q.rev ∧ H' (n + 2) = some (.arr 0 10 [o]) ∧ o.sz = 10 ∧ (∀ k, k < n → H' k = H k) ∧ n' = n + 3) ?_ ?_
 ·refine X0 (n + 1) (els := [qaX (Qp q) (bys q.frm) (bys q.to) (Zq q.fams) (bys q.pre) .nilsl]) (els' := [Zf (Qp q)]) (by first | ((try simp only [N7]); (repeat first | rw [if_pos rfl] | rw [if_pos trivial] | rw [if_neg (by omega)]); done) | ((try simp only [N7]); (repeat first | rw [if_pos rfl] | rw [if_pos trivial] | rw [if_neg (by omega)]); rfl)) (wk_qa (.refl _) (.refl _) (.refl _) (.refl _) (.nilsl 1)) ?_
  refine rk zs [2, 3, 4, 12] fun K V => ?_
  refine ck func38 ((Uj fs hfs (Qp q) (UT hq) _ _)) ?_
  apply V; clear V K
  refine Zb ?_ ?_ <;> intro hb
  ·have h1 : ¬ qcE fs (Qp q) = 0 := by simpa using hb
   rw [if_neg h1] at hz
   refine Ze zs [2, 3, 4] fun K V => ?_
   try simp only [go_sem, seval, hszs, hags, hmos, hnum, hnua, hnum2, hszq, hagq, hmoq, f1, f2, f3, f4, f5, f6, b1, b2, b3, Zf, Qp]
   repeat refine peel ?_
   apply V; clear V K
   refine rg1 zs [2, 3, 4] ?_
   refine ns ?_
   first
   | (refine ⟨.nilsl, qBare q, .agg [.nilsl, .nilsl, .nilsl, .nilsl, .int .i64 0, .int .i64 0, .int .i64 0, .bool false, .str [], .nilsl], ?_⟩
      (repeat' apply And.intro) <;> first | rfl | exact .refl _ | exact .nilsl 1 | exact (Wk.nilsl 1).2 | exact fun _ _ _ h => h | exact UT hq | exact JB hq | exact hz | (rw [if_pos h1]; exact hz) | (intro k hk; (try simp only [N7]); (repeat first | rw [if_pos rfl] | rw [if_pos trivial] | rw [if_neg (by omega)]); done) | ((try simp only [N7]); (repeat first | rw [if_pos rfl] | rw [if_pos trivial] | rw [if_neg (by omega)]); first | done | rfl))
  have h1 : qcE fs (Qp q) = 0 := by simpa using hb
  rw [if_pos h1] at hz
  refine ak ?_
  refine ns ?_
  first
  | (refine ⟨Zq q.fams, Qp q, .agg [.nilsl, .nilsl, .nilsl, .nilsl, .int .i64 0, .int .i64 0, .int .i64 0, .bool false, .str [], .nilsl], ?_⟩; have h7 := h1
     (repeat' apply And.intro) <;> first | rfl | exact .refl _ | exact .nilsl 1 | exact (Wk.nilsl 1).2 | exact fun _ _ _ h => h | exact UT hq | exact JB hq | exact hz | (rw [if_pos h1]; exact hz) | (intro k hk; (try simp only [N7]); (repeat first | rw [if_pos rfl] | rw [if_pos trivial] | rw [if_neg (by omega)]); done) | ((try simp only [N7]); (repeat first | rw [if_pos rfl] | rw [if_pos trivial] | rw [if_neg (by omega)]); first | done | rfl))
 rintro T8 H8 n8 ⟨a, q2, o, rfl, b1, b2, hwk, hq2, hz2, hrv, b3, ho, hlow, rfl⟩
 refine Za fun K1 hK1 => ?_
 refine X0 (n + 1) (els' := [Zf q2]) b2 (wk_qa (.refl _) (.refl _) hwk (.refl _) (.refl _)) ?_
 refine rk zs [3, 4, 18] fun K V => ?_
 refine ck func38 ((Uj fs hfs q2 hq2 _ _)) ?_
 apply V; clear V K
 refine Zb ?_ ?_ <;> intro hb
 ·have h2 : ¬ qcE fs q2 = 0 := by simpa using hb
  rw [if_neg h2] at hz2
  refine Ze zs [4] fun K V => ?_
  try simp only [go_sem, seval, hszs, hags, hmos, hnum, hnua, hnum2, hszq, hagq, hmoq, f1, f2, f3, f4, f5, f6, b1, b2, b3, Zf, b3, ho, hrv]
  repeat refine peel ?_
  apply V; clear V K
  refine ar ?_
  rw [hz2]
  exact ⟨_, rfl, fun k hk => by (try simp only [N7]); (repeat first | rw [if_pos rfl] | rw [if_pos trivial] | rw [if_neg (by omega)]); exact hlow k hk, .agg (.cons .nilsl (.cons .nilsl (.cons .nilsl (.cons .nilsl (.cons (.kl trivial) (.cons (.kl trivial) (.cons (.kl trivial) (.cons (.kl trivial) (.cons (.kl trivial) (.cons .nilsl .nil))))))))))⟩
 have h2 : qcE fs q2 = 0 := by simpa using hb
 rw [if_pos h2] at hz2
 refine ak ?_
 apply hK1
 refine rg zs [4] ?_
 refine ar ?_
 rw [hz2]
 exact ⟨_, rfl, fun k hk => by (try simp only [N7]); (repeat first | rw [if_pos rfl] | rw [if_pos trivial] | rw [if_neg (by omega)]); exact hlow k hk, .kl (kl_qry _ _)⟩
theorem NT41.eqs {P Q : Prop} (g : Imp P Q := by (try simp only [go_sem, seval, hnum, hnua, hnum2, hszq, hagq, hmoq, f1, f2, Zf]); exact N9) : Imp P Q := g
theorem NT41.inz {P Q : Prop} (g : Imp P Q := by refine Imp.up eqs ?_; (repeat refine Imp.pl ?_); exact N9) : Imp P Q := g
theorem dirL_take {q : QryE} {l : List RowE} {i : Nat} (h : i < l.length) (p : RowE → Bool) : ((dirL q l).take (i + 1)).filter p = ((dirL q l).take i).filter p ++ (if p ((dirL q l).getD i default) then [(dirL q l).getD i default] else []) := by
 have hl : (dirL q l).length = l.length := by unfold dirL; split <;> simp
 rw [List.take_succ_eq_append_getElem om, List.filter_append]
 congr 1
 have e : (dirL q l).getD i default = (dirL q l)[i]'om := by simp [List.getD, hl, h]
 rw [e]
 simp [List.filter_cons]
theorem dirL_at {q : QryE} {l : List RowE} {i : Nat} (h : i < l.length) : (dirL q l).getD i default = if q.rev then l.getD (l.length - 1 - i) default else l.getD i default := by
 unfold dirL
 cases q.rev
 ·rfl
 ·simp only [if_true]
  simp [List.getD, List.getElem?_reverse h]
theorem NT42.eqs {P Q : Prop} (g : Imp P Q := by (try simp only [go_sem, seval, hnum, hnua, hnum2, hszq, hagq, hmoq, hszr, hagr, hmor, b1, b2, hnth, hn2, e1, e2, e3, g1, g2, hse, XB, Nat.add_assoc, List.length_map, Int.toNat_natCast, Zr]); exact N9) : Imp P Q := g
theorem NT42.sd {P : Prop} (g : P := by first | (intro _ h8 h9; rw [h8, h9]; rfl) | (intro _ h8; rw [h8]; rfl) | exact ⟨om, om⟩ | exact ⟨rfl, by (simp [AV.sz, AV.szs, AV.memOK, hszr, hmor]; first | done | fail)⟩ | exact ⟨Nat.le_refl _, .inr trivial, om, om⟩ | fail) : P := g
set_option maxHeartbeats 6400000 in
open NT42 NZ in
theorem c_law13_from (q : QryE) (hq : q.fine) (hr0 : (ZN q).2.2 = 0) (l : List RowE) (hl : YP l) {H : Heap} {n : Nat} (hG : GOK 1 1 H n) : Ret prog 15 [Zf q, .sl 2 (l.map Zg)] H n (.tup [.sl 2 ((Vi q l).map Zg), .bool true]) H n := by
 have hszq : ∀ q, (Zf q).sz = 10 := Z5
 have hagq : ∀ q, (Zf q).isAgg = true := fun _ => rfl
 have hmoq : ∀ q, (Zf q).memOK = true := fun _ => rfl
 have hnum : ∀ l, (Zq l).sz = 1 := fun _ => rfl
 have hnua : ∀ l, (Zq l).isAgg = false := fun _ => rfl
 have hnum2 : ∀ l, (Zq l).memOK = true := fun _ => rfl
 have hszr : ∀ r, (Zg r).sz = 2 := VA
 have hagr : ∀ r, (Zg r).isAgg = true := fun _ => rfl
 have hmor : ∀ r, (Zg r).memOK = true := fun _ => rfl
 have hls := hl.1
 have hse : (ZC q).2.2 = 0 := by unfold ZC; rw [if_neg (by simp [hr0])]; split; rfl; split <;> rfl
 have b1 := hls
 have b2 := hls
 have hnth := hls
 have hn2 := hls
 have e1 := hls
 have e2 := hls
 have e3 := hls
 have g1 := hls
 have g2 := hls
 have hge : ∀ a b : List UInt8, (!Op.bytesLess a b) = decide (0 ≤ Lib.compareBytes a b) := fun a b => by
   rw [(WM a b).2, Bool.eq_iff_iff]; simp
 have hlt : ∀ a b : List UInt8, Op.bytesLess a b = decide (Lib.compareBytes a b < 0) := fun a b => (WM a b).2
 obtain ⟨F, hF⟩ : ∃ F : Nat → List RowE, F = fun i => ((dirL q l).take i).filter fun x => XJ q (ZC q).1 (ZC q).2.1 x.row := ⟨_, rfl⟩
 have hFl : ∀ i, (F i).length ≤ i := fun i => by rw [hF]; exact Nat.le_trans (List.length_filter_le _ _) (by rw [List.length_take]; omega)
 refine Ret.fin ?_
 refine fw func15 ntmps15 results15 ?_
 refine rg zs [1, 2] ?_
 refine rk zs [1, 2, 6, 7, 8] fun K V => ?_
 refine ck func24 ((Uf hq (hG.on (fun k hk => oh) om) (QL.ro q _))) ?_
 apply V; clear V K
 refine Za fun K1 hK1 => ?_
 refine rc zs [1, 2, 6, 7, 22] func20 ((Xw _ _ _)) ?_
 refine Zb ?_ ?_ <;> intro hb
 ·exact absurd hb osi
 refine ak ?_
 apply hK1
 refine rg zs [1, 2, 6, 7, 9] ?_
 refine Za fun K2 hK2 => ?_
 refine rg zs [1, 2, 6, 7, 9, 10] ?_
 refine Zy ?_
 refine Z8 9 2 rfl ?_
 refine YC [1, 2, 6, 7, 9, 10] ?_
 refine ns ?_
 refine Zp (fun T' H' n' => ∃ (i ver : Nat), i ≤ l.length ∧ T' = tl [(1, .sl 2 (l.map Zg)), (2, .loc n 0 0 0 []), (6, bys (ZC q).1), (7, .bool (ZC q).2.1), (9, .osl (n + 1) ver 0 (F i).length), (10, .int .i64 i)] ∧ H' n = some (.arr 0 10 [Zf q]) ∧ H' (n + 1) = some (.arr ver 2 ((F i).map Zg)) ∧ (∀ k, k < n → H' k = H k) ∧ n + 2 ≤ n') (fun T' _ _ => l.length - iv (T' 10)) ?_ ?_
 ·exact ⟨0, 0, Nat.zero_le _, by rw [hF]; rfl, oh, by rw [hF]; refine ohx ?_; rfl, fun k hk => oh, om⟩
 rintro T1 H1 n1 ⟨i, ver, hi, rfl, b1, b2, hlow, hn1⟩
 refine Za fun K3 hK3 => ?_
 refine rg zs [1, 2, 6, 7, 9, 10, 26] ?_
 refine Zb ?_ ?_ <;> intro hb
 ·have hci : i < l.length := ott
  have hnth : nth (l.map Zg) i = Zg (l.getD i default) := Zx Zg l i hci
  have hn2 : nth (l.map Zg) (l.length - 1 - i) = Zg (l.getD (l.length - 1 - i) default) := Zx Zg l _ om
  have e1 : IntKind.i64.wrap ((i : Int) + 1) = ((i + 1 : Nat) : Int) := w1 om
  have e2 : IntKind.i64.wrap ((l.length : Int) - 1) = ((l.length - 1 : Nat) : Int) := by rw [w64 om om]; omega
  have e3 : IntKind.i64.wrap (((l.length - 1 : Nat) : Int) - (i : Int)) = ((l.length - 1 - i : Nat) : Int) := by rw [w64 om om]; omega
  have g1 : (n = n1) = False := oz
  have g2 : (n + 1 = n1) = False := oz
  have hst := dirL_take (q := q) hci (fun x => XJ q (ZC q).1 (ZC q).2.1 x.row)
  have hF1 : F (i + 1) = F i ++ (if XJ q (ZC q).1 (ZC q).2.1 ((dirL q l).getD i default).row then [(dirL q l).getD i default] else []) := by rw [hF]; exact hst
  have hda := dirL_at (q := q) hci
  have hFi := hFl i
  obtain ⟨x, hx⟩ : ∃ x, x = (dirL q l).getD i default := ⟨_, rfl⟩
  rw [← hx] at hF1 hda
  refine ak ?_
  apply hK3
  refine ZV [1, 2, 6, 7, 9, 10] (fun T' H' n' => ∃ ver, T' = tl [(1, .sl 2 (l.map Zg)), (2, .loc n 0 0 0 []), (6, bys (ZC q).1), (7, .bool (ZC q).2.1), (9, .osl (n + 1) ver 0 (F (i + 1)).length), (10, .int .i64 i)] ∧ H' n = some (.arr 0 10 [Zf q]) ∧ H' (n + 1) = some (.arr ver 2 ((F (i + 1)).map Zg)) ∧ (∀ k, k < n → H' k = H k) ∧ n + 2 ≤ n') ?_ ?_
  ·refine Zy ?_
   refine rg zs [1, 2, 6, 7, 9, 10, 11] ?_
   refine ZV [1, 2, 6, 7, 9, 10, 11] (fun T' H' n' => T' = tl [(1, .sl 2 (l.map Zg)), (2, .loc n 0 0 0 []), (6, bys (ZC q).1), (7, .bool (ZC q).2.1), (9, .osl (n + 1) ver 0 (F i).length), (10, .int .i64 i), (11, .loc n1 0 0 0 [])] ∧ H' = H1.put n1 (some (.arr 0 2 [Zg x])) ∧ n' = n1 + 1) ?_ ?_
   ·refine Ze zs [1, 2, 6, 7, 9, 10, 11, 34] fun K V => ?_
    try simp only [go_sem, seval, hnum, hnua, hnum2, hszq, hagq, hmoq, hszr, hagr, hmor, b1, b2, hnth, hn2, e1, e2, e3, g1, g2, hse, XB, Nat.add_assoc, List.length_map, Int.toNat_natCast, Zr, Zf]
    refine kad ?_
    refine Zb ?_ ?_ <;> intro hb
    ·rw [if_pos hb] at hda
     refine rg1 zs [1, 2, 6, 7, 9, 10, 11] ?_
     refine ns ?_
     rw [hda]
    rw [if_neg (by simp [hb])] at hda
    refine ak ?_
    refine ns ?_
    rw [hda]
   rintro T8 H8 n8 ⟨rfl, rfl, rfl⟩
   refine Ze zs [1, 2, 6, 7, 9, 10, 11, 12] fun K V => ?_
   try simp only [go_sem, seval, hnum, hnua, hnum2, hszq, hagq, hmoq, hszr, hagr, hmor, b1, b2, hnth, hn2, e1, e2, e3, g1, g2, hse, XB, Nat.add_assoc, List.length_map, Int.toNat_natCast, Zr, Zf, Zg, bys]
   repeat (first | (refine And.intro ?_ ?_; · first | (intro _; exact YN _) | (intro _ h8; rw [h8]; rfl)) | refine peel ?_)
   apply V; clear V K
   refine Ze zs [1, 2, 6, 7, 9, 10, 11, 12, 13] fun K V => ?_
   try simp only [go_sem, seval, hnum, hnua, hnum2, hszq, hagq, hmoq, hszr, hagr, hmor, b1, b2, hnth, hn2, e1, e2, e3, g1, g2, hse, XB, Nat.add_assoc, List.length_map, Int.toNat_natCast, Zr, Zf, Zg, bys]
   repeat (first | (refine And.intro ?_ ?_; · first | (intro _; exact YN _) | (intro _ h8; rw [h8]; rfl)) | refine peel ?_)
   apply V; clear V K
   refine rg zs [1, 2, 6, 7, 9, 10, 11, 73] ?_
   refine Zb ?_ ?_ <;> intro hb
   ·have hyes : XJ q (ZC q).1 (ZC q).2.1 x.row = true := by unfold XJ; have h9 := hb; clear hb; revert h9; cases (ZC q).2.1 <;> cases q.rev <;> intro h9 <;> first | rfl | (simp [hlt] at h9 ⊢; omega) | (simp at h9; done)
    refine rg1 zs [1, 2, 6, 7, 9, 10] ?_
    refine ns ?_
    first
    | (rw [hF1, hyes, if_pos rfl]
       rw [List.take_of_length_le (show ((F i).map Zg).length ≤ (F i).length by simp)]
       refine ⟨ver + 1, ?_⟩; (repeat' apply And.intro) <;> first | rfl | (rw [List.length_append]; rfl) | ((try simp only [N7]); (repeat first | rw [if_pos rfl] | rw [if_pos trivial] | rw [if_neg om]); first | done | exact b1 | exact b2 | (rw [List.map_append]; rfl)) | (intro k hk; refine ohx ?_; exact hlow k hk) | omega)
   have hno : XJ q (ZC q).1 (ZC q).2.1 x.row = false := by unfold XJ; have h9 := hb; clear hb; revert h9; cases (ZC q).2.1 <;> cases q.rev <;> intro h9 <;> first | rfl | (simp [hlt] at h9 ⊢; omega) | (simp at h9; done)
   refine ak ?_
   refine ns ?_
   first
   | (rw [hF1, hno, if_neg osi, List.append_nil]
      refine ⟨ver, ?_⟩; (repeat' apply And.intro) <;> first | rfl | (rw [List.length_append]; rfl) | ((try simp only [N7]); (repeat first | rw [if_pos rfl] | rw [if_pos trivial] | rw [if_neg om]); first | done | exact b1 | exact b2 | (rw [List.map_append]; rfl)) | (intro k hk; refine ohx ?_; exact hlow k hk) | omega)
  rintro T3 H3 n3 ⟨ver3, rfl, b1, b2, hlow, hn3⟩
  refine rg1 zs [1, 2, 6, 7, 9, 10] ?_
  exact ⟨⟨i + 1, ver3, om, rfl, rfl, hlow, hn3⟩, om⟩
 have hci : i = l.length := otf
 refine ax ?_
 apply hK2
 refine rg zs [4, 5] ?_
 refine ar ?_
 subst hci
 have hFe : F l.length = Vi q l := by rw [hF]; unfold Vi; show List.filter _ (List.take l.length (dirL q l)) = _; rw [List.take_of_length_le (by unfold dirL; split <;> simp)]
 rw [hFe] at b2 ⊢
 exact ⟨_, rfl, hlow, .tup (.cons (.osl b2 om osi (by rw [List.drop_zero, List.take_of_length_le osi]; exact XV _ (XU Zg (fun r => kl_row r _) _))) (.cons (.kl trivial) .nil))⟩
end Go.Proofs.YtkmkbndcekklmaaGreatDoor
set_option maxRecDepth 10000
namespace Go.Proofs.YtkmkbndcekklmaaGreatDoor
open Go Go.Sx Go.Rt Go.Proofs
theorem Jy : Zv twoF = 0 := by decide +kernel
theorem Q7 {fs : List Fml} {q : QryE} (h : qcE fs q = 0) : Zv fs = 0 ∧ Yl fs.length q = true ∧ ¬ (0 < q.whr.length ∧ (Y7 fs q.whr).2.1 ≠ 0) ∧ (ZN q).2.2 = 0 := by
 unfold qcE at h
 split at h
 ·rename_i a; exact absurd h a
 rename_i a
 split at h
 ·exact absurd h odc
 rename_i b
 split at h
 ·rename_i c; exact absurd h c.2
 rename_i c
 exact ⟨by simpa using a, by simpa using b, c, h⟩
theorem qcE_of {fs : List Fml} {q : QryE} (h1 : Zv fs = 0) (h2 : Yl fs.length q = true) (h3 : ¬ (0 < q.whr.length ∧ (Y7 fs q.whr).2.1 ≠ 0)) : qcE fs q = (ZN q).2.2 := by
 unfold qcE
 rw [if_neg (by simp [h1]), if_neg (by simp [h2]), if_neg h3]
def qTok (q : QryE) : QryE := { V7 twoF q with frm := [], to := [], fams := [], pre := [], whr := [], rows := 1 }
theorem readQ_nil {q : QryE} (h : q.token = []) : ZN q = (0, [], 0) := by unfold ZN; rw [if_pos (by rw [h]; rfl)]
theorem qTok_fits (q : QryE) (t : List UInt8) : Yl twoF.length { qTok q with token := t } = true := by
 have h := (Q7 (Nh Jy q)).2.1
 unfold Yl VJ at h
 simp only [Bool.and_eq_true, decide_eq_true_eq] at h
 unfold Yl VJ U9 Uh qTok
 simp
 omega
theorem qTok_qcE (q : QryE) (t : List UInt8) : qcE twoF { qTok q with token := t } = (ZN { qTok q with token := t }).2.2 := qcE_of Jy (qTok_fits q t) (by rintro ⟨a, _⟩; simp [qTok] at a)
def atT (q : QryE) : Int := if (qTok q).time ≠ 0 then (qTok q).time else 5
theorem atT_in (q : QryE) : 1 ≤ atT q ∧ atT q ≤ 1099511627776 ∧ ((qTok q).time = 0 ∨ (qTok q).time = atT q) := by
 have h := qTok_fits q []
 unfold Yl VJ at h
 simp only [Bool.and_eq_true, decide_eq_true_eq] at h
 obtain ⟨_, h⟩ := h
 have h1 : 0 ≤ (qTok q).time ∧ (qTok q).time ≤ 1099511627776 := ⟨h.1.1.1.1.1.2, h.1.1.1.1.2⟩
 unfold atT
 split
 ·exact ⟨om, om, .inr rfl⟩
 ·exact ⟨om, om, .inl om⟩
def rowT (q : QryE) : List UInt8 := if (qTok q).rev then [114, 51] else [114, 49]
def tokT (q : QryE) : List UInt8 := tokB (qTok q) (atT q) (rowT q)
theorem rowT_len (q : QryE) : (rowT q).length = 2 := by unfold rowT; split <;> rfl
theorem ask_row {q : QryE} (h1 : q.frm = []) (h2 : q.to = []) (r : List UInt8) : Y6 q r = true := by
 unfold Y6
 rw [h1, h2]
 have := cb_nil r
 simp [this]
def qTrn (q : QryE) (t : List UInt8) : QryE := { qTok q with token := t }
theorem turned {q : QryE} {i : Nat} {c : UInt8} {t : List UInt8} (h : t = (tokT q).set i c) : ((qcE twoF (qTrn q t) == 132) == !(t == tokT q)) = true := by
 have hq := qTok_qcE q t
 by_cases e : t = tokT q
 ·obtain ⟨a1, a2, a3⟩ := atT_in q
  have hr : ZN (qTrn q t) = (atT q, rowT q, 0) := readQ_tok (q := qTrn q t) (t := atT q) (row := rowT q) e a1 a2 a3 (by rw [rowT_len]; decide) (by rw [rowT_len]; decide) (ask_row rfl rfl _)
  have : qcE twoF (qTrn q t) = 0 := by unfold qTrn; rw [hq]; show (ZN (qTrn q t)).2.2 = 0; rw [hr]
  rw [this, e]; simp
 ·have hr := readQ_turn (q := qTrn q t) (q0 := qTok q) (t := atT q) (row := rowT q) (i := i) (c := c) h rfl e
  have : qcE twoF (qTrn q t) = 132 := by unfold qTrn; rw [hq]; exact hr
  rw [this, beq_eq_false_iff_ne.2 e]; rfl
end Go.Proofs.YtkmkbndcekklmaaGreatDoor
set_option maxRecDepth 10000
namespace Go.Proofs.YtkmkbndcekklmaaGreatDoor
open Go Go.Sx Go.Rt Go.Proofs Tryz
theorem from_ok {q : QryE} {l : List RowE} (h : YP l) : YP (Vi q l) := by
 refine ⟨?_, fun x hx => h.2 x (Kh.1 (List.mem_filter.1 hx).1)⟩
 refine Nat.le_trans (List.length_filter_le _ _) ?_
 have : (dirL q l).length = l.length := by unfold dirL; split <;> simp
 rw [this]; exact h.1
theorem cq_good {q : QryE} (hq : q.fine) (H : Heap) : Jw prog (.fn (.func 13) [] []) [Zi twoF, Zf q] H (Zf (V7 twoF q)) := fun m => Zt func13 rfl rfl rfl (Kq twoF odc q hq) ⟨rfl, rfl, rfl⟩
theorem NT60.eqs {P Q : Prop} (g : Imp P Q := by (try simp only [go_sem, seval, hnum, hnua, hnum2, hszq, hagq, hmoq, hszp, hagp, hmop, f1, f2, f3, f4, f5, f6, b1, b2, b3, b4, g1, g2, g3, g4, Nat.add_assoc, List.length_map, Int.toNat_natCast]); exact N9) : Imp P Q := g
theorem NT60.inz {P Q : Prop} (g : Imp P Q := by refine Imp.up eqs ?_; (repeat (first | (refine Imp.nd ?_ ?_; · first | ((repeat' apply And.intro) <;> first | (intro d hd; cases hd; exact cq_two _) | (intro d hd; cases hd; exact cq_good hq _) | (intro g; trivial) | (intro g; rfl)) | ((repeat' apply And.intro) <;> first | (intro d hd; cases hd; exact cq_two _) | (intro d hd; cases hd; exact cq_good ho _) | (intro g; trivial) | (intro g; rfl)) | (intro _ h8; rw [h8]; rfl)) | refine Imp.pl ?_)); exact N9) : Imp P Q := g
end Go.Proofs.YtkmkbndcekklmaaGreatDoor