/- Own layer: walks through the document's token and its check of a question. Of the program; no condition. -/
import Derived.Test.YtkmkbndcekklmaaGreatDoorPJ
import Derived.Test.YtkmkbndcekklmaaGreatDoorPF
import Derived.Test.YtkmkbndcekklmaaGreatDoorPI
set_option linter.unusedSimpArgs false
set_option linter.unusedVariables false
set_option maxRecDepth 10000
namespace Go.Proofs.YtkmkbndcekklmaaGreatDoor
open Go Go.Sx Go.Rt Go.Proofs Tryz
theorem NHl0.eqs {P Q : Prop} (g : Imp P Q := by (try simp only [go_sem, seval, hsz, hag, hmo, f1, f2, f3, f4, g1, r1, r2, Yn, ZZ, List.length_map]); exact Pm) : Imp P Q := g
theorem NHl0.sd {P : Prop} (g : P := by first | exact ⟨Nat.le_refl _, Nat.le_refl _, .inr trivial, om, om⟩ | exact ⟨rfl, by (simp [AV.sz, AV.memOK]; first | done | fail)⟩ | fail) : P := g
open NHl0 NZ in
theorem c_ref13_token (q : QryE) (hq : q.fine) (time : Int) (row : List UInt8) (hr : row.length ≤ 256) (H : Heap) (n : Nat) : Ret prog 91 [Zg q, .int .i64 time, bys row] H n (bys (tokB q time row)) H n := by
 have hsz : (Zg q).sz = 10 := Z6 q
 have hag : (Zg q).isAgg = true := rfl
 have hmo : (Zg q).memOK = true := rfl
 have r1 := hsz
 have r2 := hsz
 have g1 := hsz
 have hy := Zl (v := row.length) om
 have hz : (Zk row).length = (Zh row.length).length + row.length := by simp [Zk]
 have hy2 := Zl (Z5 time)
 have hy3 := Zl (Z5 (sumF [YE q]))
 have f1 : (n = n + 1) = False := osi
 have f2 : (n + 1 = n) = False := osi
 have f3 : (n + 1 = n + 2) = False := osi
 have f4 : (n = n + 2) = False := osi
 refine Ret.fin ?_
 refine fw func91 ntmps91 results91 ?_
 refine rg zs [1, 2, 3] ?_
 refine rc zs [2, 3, 7] func125 ((Xp (u64 time) (Z5 _) _ _)) ?_
 refine rk zs [3, 7] fun K V => ?_
 refine ck func126 ((Wl row om _ _)) ?_
 refine kas ?_
 refine ZO (fun H' n' => H' n = some (.arr 0 10 [Zg q]) ∧ H' (n + 1) = some (.arr ((Zh (u64 time)).length + 1) 1 ((Zh (u64 time) ++ Zk row).map Zd)) ∧ (∀ k, k < n → H' k = H k) ∧ n + 3 ≤ n') ⟨by (try simp only [Pj]); simp, by rw [Pk, List.map_append], fun k hk => oh, om⟩ fun H1 m ⟨r1, r2, hl1, hm⟩ => ?_
 refine kbS ?_
 have g1 : (n + 1 = m) = False := oz
 have hbl : (Zh (u64 time) ++ Zk row).length ≤ 300 := by rw [List.length_append]; omega
 have e9 : List.take (Zh (u64 time) ++ Zk row).length (List.map Zd (Zh (u64 time) ++ Zk row)) = List.map Zd (Zh (u64 time) ++ Zk row) := Yn _
 refine rk zs [7, 8] fun K V => ?_
 refine ck func128 ((c_ref13_form q hq.frm hq.to hq.fams hq.pre hq.whr _ _)) ?_
 refine ck func127 ((NN [YE q] osi (fun x hx => by rw [List.mem_singleton.1 hx]; have := formB_len hq; omega) _ _)) ?_
 refine kas ?_
 refine Zf zs [7] fun K V => ?_
 try simp only [go_sem, seval, hsz, hag, hmo, f1, f2, f3, f4, g1, r1, r2, Yn, ZZ, List.length_map, e9]
 repeat refine peel ?_
 refine Zo func125 rfl rfl rfl ((Xp (u64 (sumF [YE q])) (Z5 _) _ _)) ?_
 try simp only [go_sem, seval, hsz, hag, hmo, f1, f2, f3, f4, g1, r1, r2, Yn, ZZ, List.length_map, e9]
 repeat (first | (refine And.intro ?_ ?_; · first | exact ⟨Nat.le_refl _, Nat.le_refl _, .inr trivial, om, om⟩) | refine peel ?_)
 refine kas ?_
 refine rk zs [9] fun K V => ?_
 rw [← List.length_append, ← List.map_append]
 refine Zo func129 rfl rfl rfl (Ret.frzK (args := [.osl (n + 1) ((Zh (u64 time)).length + 2) 0 (Zh (u64 time) ++ Zk row ++ Zh (u64 (sumF [YE q]))).length]) (args' := [bys (Zh (u64 time) ++ Zk row ++ Zh (u64 (sumF [YE q])))]) (n + 1) (Pk _ _ _) ⟨fz_bys _, trivial⟩ (c_ref1_Frame (Zh (u64 time) ++ Zk row ++ Zh (u64 (sumF [YE q]))) (by rw [List.length_append]; omega) _ _)) ?_
 refine nz ?_
 refine kas ?_
 refine rg zs [6] ?_
 refine ar ?_
 exact ⟨_, rfl, fun k hk => ohx (hl1 k hk), .kl (Z0 (tokB q time row) _)⟩
theorem head_num {n : Nat} (h : n < 4294967296) : numB 0 (Yt n) = n := by
 have hb : ∀ x : Nat, (Z4 (x : Int)).toNat = x % 256 := fun x => by rw [Ls]; simp
 show 256 * (256 * (256 * (256 * 0 + (Z4 ((n : Int) / 16777216)).toNat) + (Z4 ((n : Int) / 65536)).toNat) + (Z4 ((n : Int) / 256)).toNat) + (Z4 (n : Int)).toNat = n
 rw [show (n : Int) / 16777216 = ((n / 16777216 : Nat) : Int) by omega, show (n : Int) / 65536 = ((n / 65536 : Nat) : Int) by omega, show (n : Int) / 256 = ((n / 256 : Nat) : Int) by omega, hb, hb, hb, hb]
 omega
theorem frame_end {b : List UInt8} (hb : b.length ≤ 1048576) (h : (rfQ (Z9 b)).2.2 = 0) : (rfQ (Z9 b)).2.1 = ((Z9 b).length : Int) := by
 have hl : (Z9 b).length = 12 + b.length := by unfold Z9; simp only [List.length_append]; show 4 + 4 + b.length + 4 = _; omega
 have hN : hd4 (Z9 b) = b.length := by
   rw [hd4_num om, List.drop_zero]
   have : (Z9 b).take 4 = Yt b.length := by unfold Z9; rw [List.append_assoc, List.append_assoc]; rfl
   rw [this, head_num om]
 unfold rfQ at h ⊢
 rw [hN] at h ⊢
 unfold rfN at h ⊢
 split at h
 ·exact absurd h odc
 split at h
 ·exact absurd h odc
 split at h
 ·exact absurd h odc
 split at h
 ·exact absurd h odc
 split at h
 ·exact absurd h odc
 rename_i h1 h2 h3 h4 h5
 rw [if_neg h1, if_neg h2, if_neg h3, if_neg h4, if_neg h5, hl]
 simp only; omega
def markAV (q : QryE) : AV := .agg [.bool (decide (q.token.length ≠ 0 ∧ (ZM q).2.2 = 0)), .int .i64 (ZM q).1, bys (ZM q).2.1]
theorem NHl1.eqs {P Q : Prop} (g : Imp P Q := by (try simp only [go_sem, seval, hsz, hag, hmo, f1, f2, ruAV, rbAV, Zg, Zu, bys, List.length_map, ZZ, hx]); exact Pm) : Imp P Q := g
set_option maxHeartbeats 3200000 in
open NHl1 NY in
theorem QO (q : QryE) (hq : q.fine) (ht : -9223372036854775808 ≤ q.time ∧ q.time < 9223372036854775808) (H : Heap) (n : Nat) : Ret prog 60 [Zg q] H n (.tup [markAV q, .int .i64 (ZM q).2.2]) H n := by
 have hsz : (Zg q).sz = 10 := Z6 q
 have hag : (Zg q).isAgg = true := rfl
 have hmo : (Zg q).memOK = true := rfl
 have hTu : ∀ v : Nat, v ≤ 1099511627776 → (v ≠ u64 q.time ↔ (v : Int) ≠ q.time) := fun v hv => by
   unfold u64
   constructor
   ·intro h e; exact h (by rw [← e]; omega)
   ·intro h e; exact h om
 unfold markAV
 obtain ⟨z, hz⟩ : ∃ z, z = ZM q := ⟨_, rfl⟩
 rw [← hz]
 unfold ZM at hz
 have hfl := rfQ_len q.token
 have htl := hq.token
 have hend : ∀ u row, (rfQ q.token).2.2 = 0 → row.length ≤ 256 → (tokB q u row == q.token) = true → (rfQ q.token).2.1 = (q.token.length : Int) := fun u row h0 hr he => by
   have e : tokB q u row = q.token := by simpa using he
   have h1 := Zl (Z5 u)
   have h2 := Zl (v := row.length) om
   have h3 := Zl (Z5 (sumF [YE q]))
   rw [← e] at h0 ⊢
   exact frame_end (by simp only [List.length_append, Zk]; omega) h0
 obtain ⟨fr, hfr⟩ : ∃ f, f = rfQ q.token := ⟨_, rfl⟩
 rw [← hfr] at hz hfl hend
 obtain ⟨hu1, hu2, hu3⟩ := ruB_lt fr.1 0
 obtain ⟨u, hu⟩ : ∃ u, u = ruB fr.1 0 := ⟨_, rfl⟩
 rw [← hu] at hz hu1 hu2 hu3
 have hbm := MV fr.1 u.2.1 256
 obtain ⟨rb, hrb⟩ : ∃ b, b = rbB fr.1 u.2.1 256 := ⟨_, rfl⟩
 rw [← hrb] at hz hbm
 have hx := hsz
 have hxT : u.1 ≤ 1099511627776 → IntKind.i64.wrap (u.1 : Int) = (u.1 : Int) := fun h => w64 om om
 have f1 : (n = n + 1) = False := osi
 have f2 : (n + 1 = n) = False := osi
 refine Ret.fin ?_
 refine fw func60 ntmps60 results60 ?_
 refine rg zs [1, 2] ?_
 refine Za fun K1 hK1 => ?_
 refine rg zs [1, 2, 14] ?_
 refine Zb ?_ ?_ <;> intro hb
 ·have h0 : q.token.length = 0 := by have h9 := hb; simp at h9; simp [h9]
  rw [if_pos h0] at hz
  have hzz : z = (0, [], 0) := hz
  exact kaE
 have h0 : ¬ q.token.length = 0 := by have h9 := hb; simp at h9; simp [h9]
 rw [if_neg h0] at hz
 refine kay ?_
 refine rk zs [1, 2, 4, 5, 6] fun K V => ?_
 refine ck func97 ((hfr ▸ Li q.token om _ _)) ?_
 refine kas ?_
 refine Za fun K2 hK2 => ?_
 refine rg zs [1, 2, 4, 31] ?_
 refine Zb ?_ ?_ <;> intro hb
 ·have hc1 : fr.2.2 ≠ 0 ∨ fr.2.1 ≠ (q.token.length : Int) := by by_cases h : fr.2.2 = 0; (right; rw [h] at hb; simpa using hb); exact .inl h
  have hzz : z = (0, [], 132) := by
    rw [hz]
    split; rfl; split; rfl; split; rfl
    rename_i a1 a2 a3
    exfalso
    have a1 : fr.2.2 = 0 := by simpa using a1
    refine hc1.elim (fun h => h a1) (fun h => h (hend (u.1 : Int) rb.1 a1 (by simpa using hbm) ?_))
    cases e : (tokB q (u.1 : Int) rb.1 == q.token) with
    | true => rfl
    | false => exact absurd (.inr (.inr (.inr e))) a3
  exact kaE
 have hc1 : fr.2.2 = 0 := by by_cases h : fr.2.2 = 0; exact h; (rw [show (fr.2.2 != 0) = true by simpa using h] at hb; cases hb)
 rw [if_neg (by simp [hc1])] at hz
 refine kaQ ?_
 refine rk zs [1, 2, 4, 6, 7, 8] fun K V => ?_
 refine ck func98 ((hu ▸ Qg fr.1 0 om om _ _)) ?_
 refine kas ?_
 refine Za fun K3 hK3 => ?_
 refine rg zs [1, 2, 4, 7, 8, 60] ?_
 refine Zb ?_ ?_ <;> intro hb
 ·have hc : u.2.2 ≠ 0 ∨ u.1 < 1 ∨ 1099511627776 < u.1 ∨ (q.time ≠ 0 ∧ u.1 ≠ u64 q.time) := by
    by_cases c1 : u.2.2 = 0 <;> by_cases c2 : u.1 < 1 <;> by_cases c3 : 1099511627776 < u.1
    all_goals first | exact .inl c1 | exact .inr (.inl c2) | exact .inr (.inr (.inl c3)) | skip
    have := hxT om
    have c5 := hTu u.1 om
    simp [c1, this] at hb
    exact .inr (.inr (.inr ⟨om, c5.2 om⟩))
  have hzz : z = (0, [], 132) := by rw [hz, if_pos hc]
  refine rg zs [2, 3] ?_
  refine ar ?_
  rw [hzz]
  exact ⟨_, rfl, fun k hk => oh, .tup (.cons (.agg (.cons (XJ (by simp [h0])) (.cons (.kl trivial) (.cons .nilsl .nil)))) (.cons (.kl trivial) .nil))⟩
 have hc : ¬ (u.2.2 ≠ 0 ∨ u.1 < 1 ∨ 1099511627776 < u.1 ∨ (q.time ≠ 0 ∧ u.1 ≠ u64 q.time)) := by
   rintro (c1 | c1 | c1 | ⟨c1, c2⟩)
   ·rw [show (u.2.2 != 0) = true by simpa using c1] at hb; simp at hb
   ·simp [show decide ((u.1 : Int) < 1) = true from decide_eq_true om] at hb
   ·exact kcO
   ·by_cases c3 : u.1 ≤ 1099511627776
    ·have c5 := (hTu u.1 c3).1 c2; simp [hxT c3, c1, c5] at hb
    ·exact kcO
 rw [if_neg hc] at hz
 have hx : IntKind.i64.wrap (u.1 : Int) = (u.1 : Int) := hxT om
 refine kba ?_
 refine rk zs [1, 2, 6, 7, 9] fun K V => ?_
 refine ck func99 ((hrb ▸ Lj fr.1 u.2.1 256 om om om _ _)) ?_
 refine kas ?_
 refine Za fun K4 hK4 => ?_
 refine dx zs [2, 7, 9, 92] [.m, .q, .m, .m, .q, .q, .q, .m, .q, .m, .c, .q, .q, .m, .q, .m, .q, .m, .c, .q, .q, .c, .q, .q] [0, 1, 2, 3, 4, 5, 6, 7, 8, 9, 10, 11, 12, 13, 14, 15, 16, 17, 18, 19, 20, 21, 22, 23] [0, 1, 2, 3, 4, 5, 6, 7, 8, 9, 10, 11, 12, 13, 14, 15, 16, 17, 18, 19, 20, 21, 22, 23] fun K V => ?_
 refine cq func89 (fun _ n => (NP q rb.1 _ _)) ?_
 refine cq func91 (fun _ n => (c_ref13_token q hq u.1 rb.1 hbm _ _)) ?_
 refine cq func46 (fun _ n => (Ua (tokB q u.1 rb.1) q.token _ _)) ?_
 refine kas ?_
 refine Zb ?_ ?_ <;> intro hb
 ·have hc2 : rb.2.2 ≠ 0 ∨ rb.1.length = 0 ∨ Y1 q rb.1 = false ∨ (tokB q u.1 rb.1 == q.token) = false := by grind
  have hzz : z = (0, [], 132) := by rw [hz, if_pos hc2]
  exact kaE
 have hc2 : ¬ (rb.2.2 ≠ 0 ∨ rb.1.length = 0 ∨ Y1 q rb.1 = false ∨ (tokB q u.1 rb.1 == q.token) = false) := by grind
 have hzz : z = (((u.1 : Nat) : Int), rb.1, 0) := by rw [hz, if_neg hc2]
 refine kb3 ?_
 refine rg zs [2, 3] ?_
 refine ar ?_
 rw [hzz]
 exact ⟨_, rfl, fun k hk => oh, .tup (.cons (.agg (.cons (XJ (by simp [h0])) (.cons (.kl trivial) (.cons (.kl (WM _ _)) .nil)))) (.cons (.kl trivial) .nil))⟩
theorem fits_time {nf : Nat} {q : QryE} (h : Yk nf q = true) : 0 ≤ q.time ∧ q.time ≤ 1099511627776 := by
 unfold Yk Vk at h
 simp only [Bool.and_eq_true, decide_eq_true_eq] at h
 exact ⟨h.2.1.1.1.1.1.2, h.2.1.1.1.1.2⟩
theorem where_rel {fs : List Fml} (h : Zv fs = 0) (t : List UInt8) : ((0 ≤ (Qv fs t).2) ↔ (Y5 fs t).2.1 ≠ 0) ∧ (0 ≤ (Qv fs t).2 → (Y5 fs t).2.1 = 131) := by
 have hr := readR_rel fs t
 unfold Y5
 rw [if_neg (by simp [h])]
 cases hp : WF fs t with
 | ok x => rw [hp] at hr; rw [hr.1]; simp
 | error p => rw [hp] at hr; have hr : (Qv fs t).2 = p := hr; rw [hr]; simp
theorem NHl2.eqs {P Q : Prop} (g : Imp P Q := by (try simp only [go_sem, seval, hsz, hag, hmo, hszs, hags, hmos, f1, f2, hA, hB, Zi, Zg, Zu, bys, List.length_map, Wm, Wn, Xr, Y7]); exact Pm) : Imp P Q := g
set_option maxHeartbeats 1600000 in
open NHl2 NY in
theorem Ul (fs : List Fml) (hfs : fs.length ≤ 1048576) (q : QryE) (hq : q.fine) (H : Heap) (n : Nat) : Ret prog 38 [Zi fs, Zg q] H n (.int .i64 (qcE fs q)) H n := by
 have hsz : (Zg q).sz = 10 := Z6 q
 have hag : (Zg q).isAgg = true := rfl
 have hmo : (Zg q).memOK = true := rfl
 have hszs : (Zi fs).sz = 1 := rfl
 have hags : (Zi fs).isAgg = true := rfl
 have hmos : (Zi fs).memOK = true := rfl
 have hms : (markAV q).sz = 3 := rfl
 obtain ⟨z, hz⟩ : ∃ z, z = qcE fs q := ⟨_, rfl⟩
 rw [← hz]
 unfold qcE at hz
 have f1 : (n = n + 1) = False := osi
 have f2 : (n + 1 = n) = False := osi
 have hA := hsz
 have hB := hsz
 refine Ret.fin ?_
 refine fw func38 ntmps38 results38 ?_
 refine rg zs [2, 3] ?_
 refine rc zs [2, 3, 5] func69 ((JP fs _ _)) ?_
 refine ZQ [2, 3, 5] (fun T' H' n' => ∃ e : Int, e = (if Zv fs ≠ 0 then Zv fs else if Yk fs.length q then 0 else 130) ∧ T' = tl [(2, .loc n 0 0 0 []), (3, .loc (n + 1) 0 0 0 []), (5, .int .i64 e)] ∧ H' n = some (.arr 0 1 [Zi fs]) ∧ H' (n + 1) = some (.arr 0 10 [Zg q]) ∧ (∀ k, k < n → H' k = H k) ∧ n' = n + 2) ?_ ?_
 ·refine rg zs [2, 3, 5, 11] ?_
  refine Zb ?_ ?_ <;> intro hb
  ·have hs0 : Zv fs = 0 := osb
   have he0 : ∀ a b : Int, (if Zv fs ≠ 0 then a else b) = b := fun a b => if_neg (by simp [hs0])
   refine rc1 zs [2, 3, 5] func70 ((NS fs hfs q hq.fams _ _)) ?_
   refine ns ?_
   exact ⟨_, (he0 _ _).symm, rfl, fun k hk => onn⟩
  have hs0 : Zv fs ≠ 0 := osb
  have he0 : ∀ a b : Int, (if Zv fs ≠ 0 then a else b) = a := fun a b => if_pos hs0
  refine ak ?_
  refine ns ?_
  exact ⟨_, (he0 _ _).symm, rfl, fun k hk => onn⟩
 rintro T1 H1 n1 ⟨e, he, rfl, hA, hB, hlow, rfl⟩
 refine Za fun K1 hK1 => ?_
 refine rg zs [2, 3, 5, 16] ?_
 refine Zb ?_ ?_ <;> intro hb
 ·have hz2 : z = e := by
    rw [hz, he]; rw [he] at hb
    by_cases h1 : Zv fs = 0
    ·rw [if_neg (by simp [h1])] at hb
     have h2 : Yk fs.length q = false := by cases h2 : Yk fs.length q; rfl; (rw [h2] at hb; simp at hb)
     rw [if_neg (by simp [h1]), if_pos h2, if_neg (by simp [h1]), if_neg (by simp [h2])]
    ·rw [if_pos h1, if_pos h1]
  refine rg zs [4] ?_
  refine ar ?_
  rw [← hz2]
  exact ⟨_, rfl, fun k hk => by (try simp only [Pj]); (repeat first | rw [if_pos rfl] | rw [if_pos trivial] | rw [if_neg om]); first | done | exact hlow k hk, .kl trivial⟩
 have hs1 : Zv fs = 0 ∧ Yk fs.length q = true := by
   rw [he] at hb
   by_cases h1 : Zv fs = 0
   ·rw [if_neg (by simp [h1])] at hb; refine ⟨h1, ?_⟩; cases h2 : Yk fs.length q; (rw [h2] at hb; simp at hb); rfl
   ·rw [if_pos h1] at hb; simp at hb; exact absurd hb h1
 rw [if_neg (by simp [hs1.1]), if_neg (by simp [hs1.2])] at hz
 refine kay ?_
 refine Za fun K2 hK2 => ?_
 refine rg zs [2, 3, 20] ?_
 refine Zb ?_ ?_ <;> intro hb
 ·have hw0 : 0 < q.whr.length := by have h9 := hb; simp at h9; exact List.length_pos_iff.2 h9
  refine rc zs [3, 7] func71 ((c_ref13_read fs hfs q.whr _ _)) ?_
  refine rg zs [3, 29] ?_
  refine Zb ?_ ?_ <;> intro hb
  ·have hz2 : z = 131 := by have h9 := of_decide_eq_true hb; obtain ⟨w1, w2⟩ := where_rel hs1.1 q.whr; rw [hz, if_pos ⟨hw0, w1.1 h9⟩]; exact w2 h9
   refine kag ?_
   rw [← hz2]
   exact kaO
  have h29 := of_decide_eq_false hb
  rw [if_neg (fun h => h29 ((where_rel hs1.1 q.whr).1.2 h.2))] at hz
  refine kaQ ?_
  refine rk zs [5] fun K V => ?_
  refine ck func60 ((QO q hq (by have := fits_time hs1.2; omega) _ _)) ?_
  refine kas ?_
  refine kag ?_
  rw [hz]
  exact kaO
 have hw0 : q.whr.length = 0 := by have h9 := hb; simp at h9; simp [h9]
 rw [if_neg om] at hz
 refine kaQ ?_
 refine rk zs [5] fun K V => ?_
 refine ck func60 ((QO q hq (by have := fits_time hs1.2; omega) _ _)) ?_
 refine kas ?_
 refine kag ?_
 rw [hz]
 exact kaO
instance : Inhabited CR := ⟨CR.none⟩
structure WantOK (fs : List Fml) (q : QryE) : Prop where
 sch : Zv fs = 0
 ok : 0 < q.whr.length → ∃ x, WF fs q.whr = .ok x
theorem kl_row (r : RowE) (n : Nat) : (Ze r).kl n := ⟨WM _ _, XQ Zr (fun c => ⟨trivial, WM _ _, trivial, WM _ _, trivial⟩) _, trivial⟩
open N0 in
theorem U9 (a b : List UInt8) (H : Heap) (n : Nat) : Ret prog 26 [bys a, bys b] H n (.bool (a == b)) H n := by
 refine fw func26 ntmps26 results26 ?_
 refine kb1 ?_
 refine rc zs [4] func46 ((Ua a b _ _)) ?_
 refine ar ?_
 trivial
open N0 in
theorem Y4 (e : Int) (H : Heap) (n : Nat) : Ret prog 20 [.int .i64 e] H n (.int .i64 e) H n := by
 refine fw func20 ntmps20 results20 ?_
 refine kcu ?_
 refine kal ?_
 trivial
structure LdS (q : QryE) (k1 k2 k3 k4 kw kf vf : Nat) (H : Heap) : Prop where
 h1 : H k1 = some (VV (k1, q.frm))
 h2 : H k2 = some (VV (k2, q.to))
 h3 : H k3 = some (VV (k3, q.pre))
 h4 : H k4 = some (VV (k4, q.token))
 hw : H kw = some (.arr 0 1 [Vv (k1, q.frm), Vv (k2, q.to), Vv (k3, q.pre), Vv (k4, q.token)])
 hf : H kf = some (.arr vf 1 ((q.fams ++ [-77]).map fun x : Int => (.int .i64 x : AV)))
 d : (k1 ≠ k2 ∧ k1 ≠ k3 ∧ k1 ≠ k4 ∧ k2 ≠ k3 ∧ k2 ≠ k4 ∧ k3 ≠ k4) ∧ (kw ≠ k1 ∧ kw ≠ k2 ∧ kw ≠ k3 ∧ kw ≠ k4) ∧ (kf ≠ k1 ∧ kf ≠ k2 ∧ kf ≠ k3 ∧ kf ≠ k4 ∧ kf ≠ kw)
end Go.Proofs.YtkmkbndcekklmaaGreatDoor
namespace Go.Sx
open Go
end Go.Sx
set_option maxRecDepth 10000
namespace Go.Proofs.YtkmkbndcekklmaaGreatDoor
open Go Go.Sx Go.Rt Go.Proofs Tryz
theorem _root_.Go.Sx.Zn.adoptO {P : Program} {f : FuncId} {args : List AV} {H : Heap} {n : Nat} {K : ARes → Heap → Nat → Prop} (k esz : Nat) {ver e : Nat} {els els' : List AV} (hk : H k = some (.arr ver e els)) (ha : AdpL n els els')
   (h : Zn P f args ((H.put n (some (.arr 0 esz []))).put k (some (.arr ver e els'))) (n + 1) K) : Zn P f args H n K := fun c w vs hs hr => by
 have hst := PI hs esz
 have hkn : k ≠ n := fun e => by subst e; rw [(hs.fresh _ (Nat.le_refl _)).1] at hk; simp at hk
 have hst2 := Step.retell (els' := els') hst.sim (k := k) (by rw [Pi _ _ hkn]; exact hk) (fun ds hd => ha.relF Pn hd) ha.len.symm ha.szAll
 exact (h _ w vs (hst.trans hst2).sim (RelT.mono (hst.trans hst2).le _ _ hr)).mono fun e w' ⟨res, c', H', n', V, hst3, hm⟩ => ⟨res, c', H', n', V, (hst.trans hst2).trans hst3, hm⟩
def srcN (rows : List RowE) (err : Int) : AObj := .arr 0 5 [.agg [.sl 2 (rows.map Ze), .int .i64 err, .int .i64 0, .nilsl, .nilsl]]
def RunO (ks : Nat) (z : PgE × Nat × Int) (H : Heap) (n : Nat) (res : ARes) (H' : Heap) (n' : Nat) : Prop :=
 n ≤ n' ∧ (∀ k, k < n → k ≠ ks → H' k = H k) ∧ ∃ a pk, res = .val (.tup [a, .int .i64 z.2.2]) ∧ Own H' a (pgAV z.1) pk ∧ pk.Nodup ∧ (∀ k ∈ pk, n ≤ k ∧ k < n')
def RunP (ks : Nat) (z : PgE × Nat × Int) (H : Heap) (n : Nat) (res : ARes) (H' : Heap) (n' : Nat) : Prop :=
 n ≤ n' ∧ (∀ k, k < n → k ≠ ks → H' k = H k) ∧ res = .val (.tup [pgAV z.1, .int .i64 z.2.2])
theorem RunO.frz {ks : Nat} {z : PgE × Nat × Int} {H : Heap} {n : Nat} {P : Program} {f : FuncId} {args : List AV} (h : Zn P f args H n (RunO ks z H n)) : Zn P f args H n (RunP ks z H n) :=
 h.frzS fun res H1 n1 ⟨h1, h2, a, pk, hr, ho, hd, hp⟩ => by
   have e := PL (j := .i64) (y := z.2.2) ho
   exact ⟨_, _, fun k => k ∈ pk, inferInstance, hr, FzO.own e (fun k hk => hk), h1, fun k a b => (Heap.dropS_ne (S := fun k => k ∈ pk) (fun hm => by have := hp k hm; omega)).trans (h2 k a b), rfl⟩
theorem o_query_Run (fs : List Fml) (hfs : fs.length ≤ 1048576) (q : QryE) (hqf : q.fine) (clock : Int) (rows : List RowE) (err : Int) (hrw : Yh rows) (ks : Nat) {H : Heap} {n : Nat} (hG : GOK 1 1 H n) (hs : H ks = some (srcN rows err)) :
   Zn prog 18 [Zi fs, Zg q, .int .i64 clock, .iface 52 (.loc ks 0 0 0 [])] H n (RunO ks (runE fs q clock (some (rows, err))) H n) :=
 Zn.below hs fun hks => by
   refine Zn.adoptO ks 1 (ver := 0) (e := 5) (els := [.agg [.sl 2 (rows.map Ze), .int .i64 err, .int .i64 0, .nilsl, .nilsl]]) (els' := [.agg [.sl 2 (rows.map Ze), .int .i64 err, .int .i64 0, .osl n 0 0 0, .nilsl]]) hs ⟨Adp.agg ⟨.refl _ _, .refl _ _, .refl _ _, Adp.nilsl _, .refl _ _, trivial⟩, trivial⟩ ?_
   refine Zn.adoptO ks 2 (ver := 0) (e := 5) (els := [.agg [.sl 2 (rows.map Ze), .int .i64 err, .int .i64 0, .osl n 0 0 0, .nilsl]]) (els' := [Uz rows err 0 n 0 0 (n + 1) 0 0]) (Pk _ _ _) ⟨Adp.agg ⟨.refl _ _, .refl _ _, .refl _ _, .refl _ _, Adp.nilsl _, trivial⟩, trivial⟩ ?_
   obtain ⟨H2, hH2⟩ : ∃ x, x = (((((H.put n (some (.arr 0 1 []))).put ks (some (.arr 0 5 [.agg [.sl 2 (rows.map Ze), .int .i64 err, .int .i64 0, .osl n 0 0 0, .nilsl]]))).put (n + 1) (some (.arr 0 2 []))).put ks (some (.arr 0 5 [Uz rows err 0 n 0 0 (n + 1) 0 0]))) : Heap) := ⟨_, rfl⟩
   rw [← hH2]
   have g1 : H2 ks = some (.arr 0 5 [Uz rows err 0 n 0 0 (n + 1) 0 0]) := by rw [hH2]; (try simp only [Pj]); (repeat first | rw [if_pos rfl] | rw [if_pos trivial] | rw [if_neg om])
   have g2 : H2 n = some (.arr 0 1 []) := by rw [hH2]; (try simp only [Pj]); (repeat first | rw [if_pos rfl] | rw [if_pos trivial] | rw [if_neg om])
   have g3 : H2 (n + 1) = some (.arr 0 2 []) := by rw [hH2]; (try simp only [Pj]); (repeat first | rw [if_pos rfl] | rw [if_pos trivial] | rw [if_neg om])
   have g4 : ∀ k, k < n → k ≠ ks → H2 k = H k := fun k a b => by rw [hH2]; (try simp only [Pj]); (repeat first | rw [if_pos rfl] | rw [if_pos trivial] | rw [if_neg om])
   have hne : ∀ g o, H g = some (.glob o UO) → g ≠ ks := fun g o hg e => by rw [e, hs] at hg; cases hg
   have hne2 : ∀ g o, H g = some (.glob o Np) → g ≠ ks := fun g o hg e => by rw [e, hs] at hg; cases hg
   have hG2 : GOK 1 1 H2 (n + 1 + 1) := hG.at2 (by
     by_cases hn : (1 : Nat) = 1
     ·rw [hn]; exact g4 _ hG.get (hne _ _ hG.table)
     ·exact g4 _ hG.gek (hne2 _ _ (hG.kindsC hn))) (g4 _ hG.get (hne _ _ hG.table)) om
   have hS : SrcS rows err ks n (n + 1) (n + 2) 0 0 0 [] [] [] H2 (n + 1 + 1) := ⟨g1, g2, fun p hp => (by cases hp), fun p hp => (by cases hp), osi, g3, Pile.nil _ _ _, om, fun p hp => (by cases hp)⟩
   refine (x_query_Run fs hfs q hqf clock rows err hrw ks n (n + 1) (n + 2) 0 0 hG2 (QL.ro q H2) (fun j hj => by cases hj) hS).mono ?_
   rintro res H3 n3 ⟨h1, h2, a, pk, vw, vt, kb, tels, tk, hr, ho, hd, hp, _⟩
   exact ⟨om, fun k a b => (h2 k om b om om).trans (g4 k a b), a, pk, hr, ho, hd, fun k hk => by have := hp k hk; omega⟩
theorem Xc (fs : List Fml) (hfs : fs.length ≤ 1048576) (q : QryE) (hqf : q.fine) (clock : Int) (rows : List RowE) (err : Int) (hrw : Yh rows) (ks : Nat) {H : Heap} {n : Nat} (hG : GOK 1 1 H n) (hs : H ks = some (srcN rows err)) :
 Zn prog 18 [Zi fs, Zg q, .int .i64 clock, .iface 52 (.loc ks 0 0 0 [])] H n (RunP ks (runE fs q clock (some (rows, err))) H n) := RunO.frz (o_query_Run fs hfs q hqf clock rows err hrw ks hG hs)
def twoF : List Fml := [⟨[97], 3, 0⟩, ⟨[98], 3, 0⟩]
def WE (i : Nat) : RowE := ⟨[114, UInt8.ofNat (49 + i)], [⟨0, [120], 5, [49]⟩, ⟨1, [121], 4, [50]⟩]⟩
def ZJ : List RowE := [WE 0, WE 1, WE 2]
open N0 in
theorem Uc (H : Heap) (n : Nat) : Ret prog 14 [] H n (Zi twoF) H n := by
 refine Ret.fin ?_
 refine fw func14 ntmps14 results14 ?_
 refine rg zs [0] ?_
 refine rg zs [0] ?_
 refine ar ?_
 exact ⟨_, rfl, fun k hk => oh, .kl (kl_sch twoF _)⟩
theorem plain_at {i : Nat} (h : i < 3) : ZJ.getD i default = WE i := by rcases i with _ | _ | _ | i <;> first | rfl | omega
theorem plain_byte {i : Nat} (h : i < 3) : Zd (UInt8.ofNat (49 + i)) = .int .u8 ((49 + i : Nat) : Int) := by rcases i with _ | _ | _ | i <;> first | rfl | omega
theorem NE60.eqs {P Q : Prop} (g : Imp P Q := by (try simp only [go_sem, seval, e1, e2, e3, e4, g1, g2, g3, g4, g5, g6, hst, Nat.add_assoc]); exact Pm) : Imp P Q := g
theorem NE60.inz {P Q : Prop} (g : Imp P Q := by refine Imp.up eqs ?_; (repeat (first | (refine Imp.nd ?_ ?_; · first | exact ⟨rfl, fun x hx => by simp only [List.mem_cons, List.not_mem_nil, or_false] at hx; rcases hx with rfl | rfl <;> exact ⟨rfl, rfl⟩⟩ | exact ⟨1, rfl, rfl⟩) | refine Imp.pl ?_)); exact Pm) : Imp P Q := g
set_option maxHeartbeats 1600000 in
open NE60 in
theorem Ue (H : Heap) (n : Nat) : Zn prog 17 [] H n (fun res H' n' => res = .val (.osl n 3 0 3) ∧ H' n = some (.arr 3 2 (ZJ.map Ze)) ∧ (∀ k, k < n → H' k = H k) ∧ n' = n + 19) := by
 have e1 : n = n := rfl
 have e2 : n = n := rfl
 have e3 : n = n := rfl
 have e4 : n = n := rfl
 have g6 : n = n := rfl
 have hst : n = n := rfl
 have g1 : ∀ k : Nat, (k = k + 1) = False := fun k => by simp
 have g2 : ∀ k : Nat, (k = k + 2) = False := fun k => by simp
 have g3 : ∀ k : Nat, (k = k + 3) = False := fun k => by simp
 have g4 : ∀ k : Nat, (k = k + 4) = False := fun k => by simp
 have g5 : ∀ k : Nat, (k = k + 5) = False := fun k => by simp
 refine fw func17 ntmps17 results17 ?_
 refine rg zs [] ?_
 refine rg zs [1] ?_
 refine Za fun K1 hK1 => ?_
 refine Z8 1 2 rfl ?_
 refine rg zs [1, 2] ?_
 refine Zy ?_
 refine Zp (fun T' H' n' => ∃ i : Nat, i ≤ 3 ∧ T' = tl [(1, .osl n i 0 i), (2, .int .i64 i)] ∧ H' n = some (.arr i 2 ((ZJ.take i).map Ze)) ∧ (∀ k, k < n → H' k = H k) ∧ n' = n + 1 + 6 * i) (fun T' _ _ => 3 - iv (T' 2)) ?_ ?_
 ·exact ⟨0, by omega, rfl, by (try simp only [Pj]); (repeat first | rw [if_pos rfl] | rw [if_pos trivial] | rw [if_neg (by omega)]); rfl, fun k hk => by (try simp only [Pj]); (repeat first | rw [if_pos rfl] | rw [if_pos trivial] | rw [if_neg (by omega)]), rfl⟩
 rintro T1 H1 n1 ⟨i, hi, rfl, b1, hlow, hn1⟩
 refine Za fun K2 hK2 => ?_
 refine rg zs [1, 2, 5] ?_
 refine Zb ?_ ?_ <;> intro hb
 ·have hci : i < 3 := by have := of_decide_eq_true hb; omega
  have e1 : IntKind.i64.wrap (49 + (i : Int)) = ((49 + i : Nat) : Int) := by rw [w64 (by omega) (by omega)]; omega
  have e2 : IntKind.u8.wrap ((49 + i : Nat) : Int) = ((49 + i : Nat) : Int) := by rcases i with _ | _ | _ | i <;> first | rfl | omega
  have e3 : IntKind.i64.wrap ((i : Int) + 1) = ((i + 1 : Nat) : Int) := w1 (by omega)
  have e4 : (n = n1) = False := by simp; omega
  refine ak ?_
  apply hK2
  refine bk fun K3 hK3 => ?_
  refine rg zs [1, 2, 3] ?_
  refine rg zo [1, 2, 3] ?_
  refine QX (n1 + 5) n1 (ver := 0) (e := 4) (els := (WE i).cells.map Zr) (vj := 0) (ej := 2) (lj := [.agg [.sl 1 [.int .u8 114, .int .u8 ((49 + i : Nat) : Int)], .osl (n1 + 5) 0 0 2]]) (lj' := [Ze (WE i)]) (by (try simp only [Pj]); (repeat first | rw [if_pos rfl] | rw [if_pos trivial] | rw [if_neg (by omega)]); rfl) (by (try simp only [Pj]); (repeat first | rw [if_pos rfl] | rw [if_pos trivial] | rw [if_neg (by omega)])) (by omega) ⟨FzV.agg ⟨?_, FzV.osl (off := 0) (len := 2) (by simp [WE]), trivial⟩, trivial⟩ ?_
  ·rw [← plain_byte hci]; exact .refl _
  have g6 : ∀ j : Nat, (n = n1 + j) = False := fun j => by simp; omega
  have hst : strip true (Ze (WE i)) = Ze (WE i) := rfl
  have hl : (List.map Ze (List.take i ZJ)).length = i := by rw [List.length_map, List.length_take, show ZJ.length = 3 from rfl]; omega
  have hrs := Qr (WE i)
  have hrm : (Ze (WE i)).memOK = true := rfl
  have hra : (Ze (WE i)).isAgg = true := rfl
  refine ZG zs [1, 2] fun K J => ?_
  try simp only [go_sem, seval, e1, e2, e3, e4, g1, g2, g3, g4, g5, g6, hst, Nat.add_assoc, hrs, hrm, hra, b1]
  repeat (first | (refine And.intro ?_ ?_; · first | exact ⟨by omega, .inr trivial, by omega, by omega⟩ | exact ⟨rfl, fun x hx => by rw [List.mem_singleton.1 hx]; exact ⟨hrs, hrm⟩⟩) | refine peel ?_)
  apply J; clear J K
  refine ns ?_
  apply hK3
  refine rg1 zs [1, 2] ?_
  refine ⟨⟨i + 1, by omega, rfl, ?_, fun k hk => by (try simp only [Pj]); (repeat first | rw [if_pos rfl] | rw [if_pos trivial] | rw [if_neg (by omega)]); exact hlow k hk, by omega⟩, by omega⟩
  rw [Q9 ZJ (show i < ZJ.length from hci), plain_at hci]
  (try simp only [Pj]); (repeat first | rw [if_pos rfl] | rw [if_pos trivial] | rw [if_neg (by omega)])
  rw [List.take_of_length_le (by omega), List.map_append]; rfl
 have hci : i = 3 := by have := of_decide_eq_false hb; omega
 subst hci
 refine ax ?_
 apply hK1
 refine rg zs [0] ?_
 refine ar ?_
 exact ⟨b1, hlow, by omega⟩
theorem Uq (H : Heap) (n : Nat) : Ret prog 17 [] H n (.sl 2 (ZJ.map Ze)) H n :=
 Ret.fin ((Ue H n).mono fun res H' n' ⟨h1, h2, h3, _⟩ => ⟨_, h1, h3, .osl h2 (Nat.le_refl _) (Nat.le_refl _) (show FrzL H' n (ZJ.map Ze) (ZJ.map Ze) from XR _ (XQ Ze (fun x => kl_rowAV x n) _))⟩)
theorem NE61.eqs {P Q : Prop} (g : Imp P Q := by (try simp only [go_sem, seval, List.length_map]); exact Pm) : Imp P Q := g
open NE61 NY in
theorem Y9 (b : List UInt8) (hb : b.length ≤ 1099511627776) (H : Heap) (n : Nat) : Ret prog 23 [bys b] H n (bys b) H n := by
 have h9 := QN b hb 0 b.length (Nat.zero_le _) (Nat.le_refl _) H n
 rw [List.drop_zero, List.take_length] at h9
 refine fw func23 ntmps23 results23 ?_
 refine rg zs [0] ?_
 refine rk zs [2] fun K J => ?_
 refine ck func58 (h9) ?_
 apply J; clear J K
 refine ar ?_
 trivial
theorem NE62.eqs {P Q : Prop} (g : Imp P Q := by (try simp only [go_sem, seval, hsz, hag, hmo, Zg, Zu, bys, List.length_map, Int.toNat_natCast]); exact Pm) : Imp P Q := g
theorem NE62.sd {P : Prop} (g : P := by first | exact ⟨.inr trivial, om, om⟩ | fail) : P := g
set_option maxHeartbeats 1600000 in
open NE62 NZ in
theorem N7 (q : QryE) (hq : q.fine) (H : Heap) (n : Nat) : Ret prog 32 [Zg q] H n (Zg q) H n := by
 have hsz : (Zg q).sz = 10 := Z6 q
 have hag : (Zg q).isAgg = true := rfl
 have hmo : (Zg q).memOK = true := rfl
 have h1 := hq.frm
 have h2 := hq.to
 have h3 := hq.pre
 have h4 := hq.token
 have h5 := hq.fams
 refine Ret.fin ?_
 refine fw func32 ntmps32 results32 ?_
 refine rg zs [1, 2] ?_
 refine rk zs [1, 2] fun K J => ?_
 refine ck func23 ((Y9 q.frm om _ _)) ?_
 apply J; clear J K
 refine rk zs [1, 2] fun K J => ?_
 refine ck func23 ((Y9 q.to om _ _)) ?_
 apply J; clear J K
 refine rk zs [1, 2] fun K J => ?_
 refine ck func23 ((Y9 q.pre om _ _)) ?_
 apply J; clear J K
 refine rk zs [1, 2] fun K J => ?_
 refine ck func23 ((Y9 q.token om _ _)) ?_
 apply J; clear J K
 refine rg zs [1, 2, 3] ?_
 refine rg zs [1, 2] ?_
 refine rg zs [2] ?_
 refine ar ?_
 exact ⟨_, rfl, fun k hk => oh, .kl (kl_qry q _)⟩
def q0 : QryE := { frm := [], to := [], fams := [], pre := [], time := 0, n := 1, rows := 2, rev := false, whr := [118, 97, 108, 117, 101, 32, 61, 32, 34, 49, 34], token := [] }
def pg0 : PgE := (runE twoF q0 9 (some (ZJ, 0))).1
def q1 : QryE := { q0 with token := pg0.token }
def pg1 : PgE := (runE twoF q1 99 (some (ZJ.drop 2, 0))).1
theorem st1 : (runE twoF q0 9 (some (ZJ, 0))).2.2 = 0 ∧ pg0.rows.length = 2 ∧ (pg0.rows.getD 0 default).cells.length = 1 ∧ pg0.done = false ∧ pg0.token.length ≠ 0 ∧ pg0.token.length ≤ 1000 := by decide +kernel
theorem st2 : ZC q1 = ([114, 50, 0], true, 0) := by decide +kernel
theorem st3 : (runE twoF q1 99 (some (ZJ.drop 2, 0))).2.2 = 0 ∧ pg1.rows.length = 1 ∧ pg1.done = true ∧ pg1.token = [] := by decide +kernel
theorem q0_fine : q0.fine := ⟨odc, odc, odc, odc, odc, odc⟩
theorem q1_fine : q1.fine := ⟨odc, odc, odc, odc, odc, by have := st1.2.2.2.2.2; show pg0.token.length ≤ _; omega⟩
theorem UB : Yh ZJ := ⟨odc, fun x hx => by simp only [ZJ, List.mem_cons, List.not_mem_nil, or_false] at hx; rcases hx with rfl | rfl | rfl <;> refine ⟨odc, odc, fun c hc => ?_⟩ <;> simp only [WE, List.mem_cons, List.not_mem_nil, or_false] at hc <;> rcases hc with rfl | rfl <;> decide⟩
theorem Yh.drop {l : List RowE} (h : Yh l) (k : Nat) : Yh (l.drop k) := ⟨by rw [List.length_drop]; have := h.1; omega, fun x hx => h.2 x (List.mem_of_mem_drop hx)⟩
theorem cq_two (H : Heap) : KE prog (.fn (.func 14) [] []) [] H (Zi twoF) := fun m => Zo func14 rfl rfl rfl (Uc H m) ⟨rfl, rfl, rfl⟩
theorem cq_plain (H : Heap) : KE prog (.fn (.func 17) [] []) [] H (.sl 2 (ZJ.map Ze)) := fun m => Zo func17 rfl rfl rfl (Uq H m) ⟨rfl, rfl, rfl⟩
theorem ret_start (q : QryE) (hq : q.fine) {r : List UInt8 × Bool × Int} (hr : ZC q = r) {H : Heap} {n : Nat} (hG : GOK 1 1 H n) : Ret prog 24 [Zg q] H n (.tup [bys r.1, .bool r.2.1, .int .i64 r.2.2]) H n := by
 have := Uh hq hG (QL.ro q H)
 unfold XN at this
 rw [hr] at this
 exact this
theorem NE70.eqs {P Q : Prop} (g : Imp P Q := by (try simp only [go_sem, seval, hszq, hagq, hmoq, hszp, hagp, hmop, b1, b2, g1, g2, g3, s2, s3, s4, u2, u3, u4, hn0, pgAV, Ze, bys, Nat.add_assoc, List.length_map, Int.toNat_natCast]); exact Pm) : Imp P Q := g
theorem NE70.sd {P : Prop} (g : P := by first | ((repeat' apply And.intro) <;> first | (intro d hd; cases hd; exact cq_two _) | (intro d hd; cases hd; exact cq_plain _) | (intro g; trivial) | (intro g; rfl)) | exact ⟨1, rfl, rfl⟩ | fail) : P := g
set_option maxRecDepth 100000 in
set_option maxHeartbeats 3200000 in
open NE70 NZ in
theorem Mc (H : Heap) (n : Nat) (hG : GOK 1 1 H n) : Ret prog 31 [] H n (.bool true) H n := by
 have hszq : ∀ q, (Zg q).sz = 10 := Z6
 have hagq : ∀ q, (Zg q).isAgg = true := fun _ => rfl
 have hmoq : ∀ q, (Zg q).memOK = true := fun _ => rfl
 have hszp : ∀ p, (pgAV p).sz = 3 := fun _ => rfl
 have hagp : ∀ p, (pgAV p).isAgg = true := fun _ => rfl
 have hmop : ∀ p, (pgAV p).memOK = true := fun _ => rfl
 have hg1 := hG.gek
 have hg2 := hG.get
 obtain ⟨s1, s2, s3, s4, s5, s6⟩ := st1
 obtain ⟨u1, u2, u3, u4⟩ := st3
 have hn0 : nth (pg0.rows.map Ze) 0 = Ze (pg0.rows.getD 0 default) := Zx Ze _ 0 om
 have b1 := hG
 have b2 := hG
 have g1 : (n = n + 1) = False := osi
 have g2 : (n = n + 2) = False := osi
 have g3 := hG
 refine Ret.fin ?_
 refine fw func31 ntmps31 results31 ?_
 refine rg zs [] ?_
 refine rg zs [1] ?_
 refine WP n (els' := [Zg q0]) (Pk _ _ _) ⟨Wk.agg ⟨Wk.nilsl 1, Wk.nilsl 1, Wk.nilsl 1, Wk.nilsl 1, .refl _, .refl _, .refl _, .refl _, .refl _, Wk.nilsl 1, trivial⟩, trivial⟩ ?_
 refine awp_seq_j (fun T' H' n' => ∃ kp : Nat, T' = tl [(1, .loc n 0 0 0 []), (2, .loc kp 0 0 0 []), (3, .int .i64 0)] ∧ H' n = some (.arr 0 10 [Zg q0]) ∧ H' kp = some (.arr 0 3 [pgAV pg0]) ∧ n < kp ∧ kp < n' ∧ ∀ k, k < n → H' k = H k) ?_ ?_
 ·refine awp_tree1 rfl zs [1, 2, 3] 10 [.c, .q, .c, .q, .w [1], .q, .w [], .m, .q, .q, .w [], .w [9], .q] [0, 1, 2, 3, 4, 5, 6, 7, 8, 9] [11, 12] (.w [0, 1, 2, 3, 5, 8, 9]) [(4, .w [0, 1, 2, 3]), (6, .w [0, 1, 2, 3, 5])] [0, 1, 2, 3, 4, 5, 6, 7, 8, 9, 0, 10, 11] odc (by kernel_rfl) (fun _ _ _ _ _ h => h) fun K V => ?_
  refine nz ?_
  refine cq func14 (fun _ n => (Uc _ _)) ?_
  refine cq func17 (fun _ n => (Uq _ _)) ?_
  refine And.intro ?_ ?_
  ·refine nz ?_
   refine Zt (args' := [Zi twoF, Zg q0, .int .i64 9, .iface 52 (.loc _ 0 0 0 [])]) func18 rfl rfl rfl ((Xc twoF odc q0 q0_fine 9 ZJ 0 UB _ ?_ ?_)) ?_ ?_
   ·exact hG.on (fun k hk => oh) om
   ·refine ohx ?_; rfl
   rotate_left
   ·exact kb4
   intro rr H1 n1 hc
   obtain ⟨hn1, hlo1, hr⟩ := hc
   rw [s1, show (runE twoF q0 9 (some (ZJ, 0))).1 = pg0 from rfl] at hr
   cases hr
   have g3 : (n = n1) = False := oz
   have b2 : H1 n = some (.arr 0 10 [Zg q0]) := (hlo1 _ om om).trans oh
   have b1 : H1 (n + 1) = some (.arr 0 3 [.agg [.nilsl, .nilsl, .bool false]]) := (hlo1 _ om om).trans oh
   exact kak
  refine nz ?_
  refine And.intro ?_ ?_
  ·refine nz ?_
   refine Zt (args' := [Zi twoF, Zg q0, .int .i64 9, .iface 52 (.loc _ 0 0 0 [])]) func18 rfl rfl rfl ((Xc twoF odc q0 q0_fine 9 ZJ 0 UB _ ?_ ?_)) ?_ ?_
   ·exact hG.on (fun k hk => oh) om
   ·refine ohx ?_; rfl
   rotate_left
   ·exact kb4
   intro rr H1 n1 hc
   obtain ⟨hn1, hlo1, hr⟩ := hc
   rw [s1, show (runE twoF q0 9 (some (ZJ, 0))).1 = pg0 from rfl] at hr
   cases hr
   have g3 : (n = n1) = False := oz
   have b2 : H1 n = some (.arr 0 10 [Zg q0]) := (hlo1 _ om om).trans oh
   have b1 : H1 (n + 2) = some (.arr 0 3 [.agg [.nilsl, .nilsl, .bool false]]) := (hlo1 _ om om).trans oh
   exact kak
  refine nz ?_
  refine Zt (args' := [Zi twoF, Zg q0, .int .i64 9, .iface 52 (.loc _ 0 0 0 [])]) func18 rfl rfl rfl ((Xc twoF odc q0 q0_fine 9 ZJ 0 UB _ ?_ ?_)) ?_ ?_
  ·exact hG.on (fun k hk => oh) om
  ·refine ohx ?_; rfl
  rotate_left
  ·exact kb4
  intro rr H1 n1 hc
  obtain ⟨hn1, hlo1, hr⟩ := hc
  rw [s1, show (runE twoF q0 9 (some (ZJ, 0))).1 = pg0 from rfl] at hr
  cases hr
  have g3 : (n = n1) = False := oz
  have b2 : H1 n = some (.arr 0 10 [Zg q0]) := (hlo1 _ om om).trans oh
  exact kak
 rintro T9 H1 n1 ⟨kp, rfl, b2, b1, hkp, hkn, hlow1⟩
 refine Za fun K1 hK1 => ?_
 refine rc zs [1, 2, 45] func20 ((Y4 _ _ _)) ?_
 refine Zb ?_ ?_ <;> intro hb
 ·exact absurd hb (by simp [s5])
 refine kay ?_
 refine rg zs [1, 2] ?_
 refine rk zs [1, 2, 4, 5, 6] fun K V => ?_
 refine ck func24 ((ret_start q1 q1_fine st2 (hG.on (fun k hk => ohx (hlow1 k hk)) om))) ?_
 refine kas ?_
 refine Za fun K2 hK2 => ?_
 refine Zf zs [1, 2, 67] fun K V => ?_
 refine kaY ?_
 repeat refine peel ?_
 refine Zo func20 rfl rfl rfl ((Y4 _ _ _)) ?_
 refine kaY ?_
 repeat (first | (refine And.intro ?_ ?_; · first | exact ⟨rfl, fun x hx => by simp only [List.mem_cons, List.not_mem_nil, or_false] at hx; rcases hx with rfl | rfl | rfl <;> exact ⟨rfl, rfl⟩⟩) | refine peel ?_)
 refine Yz func26 rfl rfl rfl (fun _ => (U9 [114, 50, 0] [114, 50, 0] _ _)) ?_
 refine kaY ?_
 refine kad ?_
 refine Zb ?_ ?_ <;> intro hb
 ·exact kaJ
 refine kaQ ?_
 refine ZO (fun H' n' => H' n = some (.arr 0 10 [Zg q1]) ∧ H' kp = some (.arr 0 3 [pgAV pg0]) ∧ (∀ k, k < n → H' k = H k) ∧ n' = n1) ⟨ohr, ohx b1, fun k hk => ohx (hlow1 k hk), rfl⟩ fun H2 n2 ⟨b2, b1, hlow2, hn2⟩ => ?_
 subst hn2
 have f9 : (n = n2) = False := oz
 have hpl : ZJ.length = 3 := rfl
 have hS2 := Yh.drop UB 2
 refine YS rfl zs [2, 3] [.c, .q, .c, .q, .q, .w [1], .q, .w [], .m, .q, .q, .w [10], .q] [0, 1, 2, 3, 4, 5, 6, 7, 8, 9, 10, 11, 12] [0, 1, 2, 3, 4, 5, 6, 7, 8, 9, 10, 11, 12] (by kernel_rfl) (fun _ _ _ _ _ h => h) fun K V => ?_
 refine kao ?_
 repeat refine peel ?_
 refine ZY func14 rfl rfl rfl (fun _ n => (Uc _ _)) ?_
 refine kao ?_
 repeat refine peel ?_
 refine ZY func17 rfl rfl rfl (fun _ n => (Uq _ _)) ?_
 refine kao ?_
 repeat (first | (refine And.intro ?_ ?_; · first | exact ⟨1, rfl, rfl⟩) | refine peel ?_)
 refine cK func18 ((Xc (H := H2.put n2 (some (srcN (ZJ.drop 2) 0))) (n := n2 + 1) twoF odc q1 q1_fine 99 (ZJ.drop 2) 0 hS2 n2 (hG.on (fun k hk => ohx (hlow2 k hk)) om) oh)) ?_ ?_
 ·exact kb4
 intro rr H3 n3 hc
 obtain ⟨hn3, hlo3, hr⟩ := hc
 rw [u1, show (runE twoF q1 99 (some (ZJ.drop 2, 0))).1 = pg1 from rfl] at hr
 cases hr
 have b1 : H3 kp = some (.arr 0 3 [pgAV pg0]) := (hlo3 _ om om).trans (ohx b1)
 have hlow3 : ∀ k, k < n → H3 k = H k := fun k hk => (hlo3 k om om).trans (ohx (hlow2 k hk))
 refine kao ?_
 refine kad ?_
 refine rc zs [0] func20 ((Y4 _ _ _)) ?_
 refine ar ?_
 refine ⟨_, rfl, fun k hk => ohx (hlow3 k hk), Frz.eq osi trivial⟩
def WA (l : List RowE) : AV := .sl 2 (l.map Ze)
end Go.Proofs.YtkmkbndcekklmaaGreatDoor
set_option maxRecDepth 10000
namespace Go.Proofs.YtkmkbndcekklmaaGreatDoor
open Go Go.Sx Go.Rt Go.Proofs Go.ChangeShapes Go.WideShapes Go.ChangeAt Go.RowKit Tryz
def MO (l : List RowE) : Nat := max l.length (l.foldr (fun c a => max (rowQ c) a) 0)
theorem foldr_le {l : List RowE} {m : Nat} (h : ∀ c ∈ l, rowQ c ≤ m) : l.foldr (fun c a => max (rowQ c) a) 0 ≤ m := by
 exact kbQ
theorem le_foldr {l : List RowE} {c : RowE} (h : c ∈ l) : rowQ c ≤ l.foldr (fun c a => max (rowQ c) a) 0 := by
 exact kbX
theorem sRows_av3 {a : AV} {m : Nat} (h : sSl 2 SRow a m) : ∃ l : List RowE, a = WA l ∧ MO l ≤ m ∧ 1 ≤ m := by
 obtain ⟨l, h1, h2, h3⟩ := Vm (f := Ze) (q := rowQ) (fun a m h => MJ h) h
 refine ⟨l, h1, ?_, om⟩
 have := foldr_le h3
 unfold MO
 omega
theorem rowsQ_ok {l : List RowE} (h : MO l ≤ 1048576) : Yh l := by
 unfold MO at h
 refine ⟨om, fun x hx => ?_⟩
 have h1 := le_foldr hx
 have := rowQ_spec (r := x) (m := 1048576) om
 exact ⟨om, om, fun c hc => by have := this.2.2 c hc; omega⟩
section
variable {H : Type} {enc : TypeId × Value → H} {W : World}
theorem rRowss : Reads enc prog W Rows.uptoBulk 38 (sSl 1 (sSl 2 SRow)) := XY Xh underlying38 (by kernel_rfl) odc rRows fun a m h => by obtain ⟨x, rfl, _⟩ := sRows_av3 h; rfl
end
theorem Kw {H : Type} (d : DataW H) : 1 ≤ Rows.uptoBulk d := by
 cases d with
 | lit l => exact Xh.lit l
 | nil => exact Xh.nil
 | _ => simp [Rows.uptoBulk]
section
variable {H : Type} {enc : TypeId × Value → H} {W : World}
set_option maxRecDepth 100000 in
theorem argRowsB {v : Value} {d : DataW H} {ps : List MemPlace} (hv : Value.okWide prog W .any 0 26 v) (h : DataW.Trod enc prog W 0 (fun _ => true) true 26 v d ps) (hb : Rows.uptoBulk d ≤ 1048576) :
   ∃ l : List RowE, Rel (c0 W) (.sl 2 (l.map Ze)) false [v] ∧ Yh l ∧ l.length + 1 ≤ Rows.uptoBulk d := by
 obtain ⟨a, m, h1, h2, h3⟩ := Jd rRows h
 obtain ⟨l, rfl, h4, h5⟩ := Vm (f := Ze) (q := rowQ) (fun a m h => MJ h) h1
 obtain ⟨aa, len, cap, rfl⟩ := okWide_slice underlying26 hv
 refine ⟨l, JZ h2 (fun h => by simp [AV.isAgg] at h) (fun _ => rfl), ⟨om, fun x hx => ?_⟩, om⟩
 obtain ⟨q1, q2, q3⟩ := rowQ_spec (r := x) (m := 1048576) (by have := h5 x hx; omega)
 exact ⟨om, om, fun c hc => by have := q3 c hc; omega⟩
theorem sRows_av4 {a : AV} {m : Nat} (h : sSl 2 SRow a m) : ∃ l : List RowE, a = WA l ∧ max (l.length + 1) (MO l) ≤ m ∧ 1 ≤ m := by
 obtain ⟨l, h1, h2, h3⟩ := Vm (f := Ze) (q := rowQ) (fun a m h => MJ h) h
 refine ⟨l, h1, ?_, om⟩
 have := foldr_le h3
 unfold MO
 omega
set_option maxRecDepth 100000 in
theorem argRowssB {v : Value} {d : DataW H} {ps : List MemPlace} (hv : Value.okWide prog W .any 0 38 v) (h : DataW.Trod enc prog W 0 (fun _ => true) true 38 v d ps) (hb : Rows.uptoBulk d ≤ 1048576) :
   ∃ l : List (List RowE), Rel (c0 W) (.sl 1 (l.map WA)) false [v] ∧ l.length ≤ 1048576 ∧ ∀ y ∈ l, Yh y ∧ y.length + 1 ≤ Rows.uptoBulk d := by
 obtain ⟨a, m, h1, h2, h3⟩ := Jd rRowss h
 obtain ⟨l, rfl, h4, h5⟩ := Vm (f := WA) (q := fun l => max (l.length + 1) (MO l)) (fun a m h => sRows_av4 h) h1
 obtain ⟨aa, len, cap, rfl⟩ := okWide_slice underlying38 hv
 exact ⟨l, JZ h2 (fun h => by simp [AV.isAgg] at h) (fun _ => rfl), om, fun y hy => ⟨rowsQ_ok (by have := h5 y hy; omega), by have := h5 y hy; omega⟩⟩
end
end Go.Proofs.YtkmkbndcekklmaaGreatDoor
set_option maxRecDepth 10000
namespace Go.Proofs.YtkmkbndcekklmaaGreatDoor
open Go Go.Sx Go.Rt Go.Proofs
theorem tab_top : ∀ i j : Fin 16, (tabQ ((i.1 : Nat) : Int)).toNat / 268435456 = (tabQ ((j.1 : Nat) : Int)).toNat / 268435456 → i = j := by decide +kernel
def nibS (r c : Nat) : Nat := r / 16 ^^^ nibM (r % 16) (c % 16)
theorem Md {x y z : Nat} (h : x ^^^ z = y ^^^ z) : x = y := by
 have := congrArg (· ^^^ z) h
 simpa only [Nat.xor_assoc, Nat.xor_self, Nat.xor_zero] using this
theorem Ms {x y z : Nat} (h : z ^^^ x = z ^^^ y) : x = y := Md (z := z) (by rw [Nat.xor_comm x, Nat.xor_comm y]; exact h)
theorem xor_top (x y : Nat) : (x ^^^ y) / 268435456 = x / 268435456 ^^^ y / 268435456 := by
 have := Nat.shiftRight_xor_distrib (a := x) (b := y) (i := 28)
 simpa [Nat.shiftRight_eq_div_pow] using this
theorem Mh {l e : Nat} (hl : l < 16) (he : e < 16) : nibM l e = (tabQ ((l ^^^ e : Nat) : Int)).toNat := by
 have := (Ke ⟨l, hl⟩ ⟨e, he⟩).1
 simp only at this
 omega
theorem Kc {r r' c c' : Nat} (hr : r < 4294967296) (hr' : r' < 4294967296) (h : nibS r c / 268435456 = nibS r' c' / 268435456) : r % 16 ^^^ c % 16 = r' % 16 ^^^ c' % 16 := by
 unfold nibS at h
 rw [Mh (Nat.mod_lt _ odc) (Nat.mod_lt _ odc), Mh (Nat.mod_lt _ odc) (Nat.mod_lt _ odc), xor_top, xor_top, show r / 16 / 268435456 = 0 by omega, show r' / 16 / 268435456 = 0 by omega, Nat.zero_xor, Nat.zero_xor] at h
 have h1 : r % 16 ^^^ c % 16 < 16 := Nat.xor_lt_two_pow (n := 4) (Nat.mod_lt _ odc) (Nat.mod_lt _ odc)
 have h2 : r' % 16 ^^^ c' % 16 < 16 := Nat.xor_lt_two_pow (n := 4) (Nat.mod_lt _ odc) (Nat.mod_lt _ odc)
 exact congrArg Fin.val (tab_top ⟨_, h1⟩ ⟨_, h2⟩ h)
theorem Nc {r r' c c' : Nat} (h : nibS r c = nibS r' c') (hi : r % 16 ^^^ c % 16 = r' % 16 ^^^ c' % 16) : r / 16 = r' / 16 := by
 unfold nibS at h
 rw [Mh (Nat.mod_lt _ odc) (Nat.mod_lt _ odc), Mh (Nat.mod_lt _ odc) (Nat.mod_lt _ odc), hi] at h
 exact Md h
theorem Jf {r c : Nat} (hr : r < 4294967296) : nibS r c < 4294967296 := Nat.xor_lt_two_pow (n := 32) om (Ke ⟨r % 16, Nat.mod_lt _ odc⟩ ⟨c % 16, Nat.mod_lt _ odc⟩).2
theorem QU (r c : Nat) : bit8 r c = nibS (nibS r c) (c / 16) := by
 unfold bit8
 rw [nib, nib]; rfl
theorem Jo {r : Nat} (hr : r < 4294967296) (c : Nat) : bit8 r c < 4294967296 := by rw [QU]; exact Jf (Jf hr)
theorem bit8_state {r r' c : Nat} (hr : r < 4294967296) (hr' : r' < 4294967296) (h : bit8 r c = bit8 r' c) : r = r' := by
 rw [QU, QU] at h
 have e1 := Kc (Jf hr) (Jf hr') (congrArg (· / 268435456) h)
 have e2 := Nc h e1
 have e3 := Md e1
 have e4 : nibS r c = nibS r' c := om
 have e5 := Kc hr hr' (congrArg (· / 268435456) e4)
 have e6 := Nc e4 e5
 have e7 := Md e5
 omega
theorem bit8_byte {r c c' : Nat} (hr : r < 4294967296) (hc : c < 256) (hc' : c' < 256) (h : bit8 r c = bit8 r c') : c = c' := by
 rw [QU, QU] at h
 have e1 := Kc (Jf hr) (Jf hr) (congrArg (· / 268435456) h)
 have e2 := Nc h e1
 have e3 : nibS r c / 268435456 = nibS r c' / 268435456 := om
 have e4 := Ms (Kc hr hr e3)
 have e5 : nibS r c = nibS r c' := by unfold nibS; rw [e4]
 rw [e5] at e1
 have e6 := Ms e1
 omega
def crcN (r : Nat) (l : List UInt8) : Nat := l.foldl (fun r b => bit8 r b.toNat) r
theorem Mq : ∀ (l : List UInt8) {r : Nat}, r < 4294967296 → crcN r l < 4294967296
 | [], _, h => h
 | b :: l, r, h => Mq l (Jo h _)
theorem sumP_crc : ∀ (l : List UInt8) {r : Nat}, r < 4294967296 → sumP (r : Int) l = ((crcN r l : Nat) : Int)
 | [], _, _ => rfl
 | b :: l, r, h => by
   unfold sumP crcN
   rw [List.foldl_cons, List.foldl_cons, (sumS_bit h b).1]
   exact sumP_crc l (Jo h _)
theorem crcN_inj : ∀ (l : List UInt8) {r r' : Nat}, r < 4294967296 → r' < 4294967296 → crcN r l = crcN r' l → r = r'
 | [], _, _, _, _, h => h
 | b :: l, r, r', h, h', e => bit8_state h h' (crcN_inj l (Jo h _) (Jo h' _) e)
theorem ME (b : List UInt8) : sumF [b] = ((4294967295 ^^^ crcN 4294967295 b : Nat) : Int) := by
 unfold sumF
 rw [List.foldl_cons, List.foldl_nil, show (4294967295 : Int) = ((4294967295 : Nat) : Int) from rfl, sumP_crc b odc, xor32 odc (Mq b odc)]
theorem sumF_turn (l1 l2 : List UInt8) {x y : UInt8} (h : sumF [l1 ++ x :: l2] = sumF [l1 ++ y :: l2]) : x = y := by
 rw [ME, ME] at h
 have h1 := Ms (Int.ofNat.inj h)
 have key : ∀ z : UInt8, crcN 4294967295 (l1 ++ z :: l2) = crcN (bit8 (crcN 4294967295 l1) z.toNat) l2 := fun z => by unfold crcN; rw [List.foldl_append, List.foldl_cons]
 rw [key, key] at h1
 have hc : crcN 4294967295 l1 < 4294967296 := Mq l1 odc
 exact UInt8.toNat_inj.1 (bit8_byte hc x.toNat_lt y.toNat_lt (crcN_inj l2 (Jo hc _) (Jo hc _) h1))
theorem sumF_lt (b : List UInt8) : 0 ≤ sumF [b] ∧ sumF [b] < 4294967296 := by
 rw [ME]
 have : 4294967295 ^^^ crcN 4294967295 b < 4294967296 := Nat.xor_lt_two_pow (n := 32) odc (Mq b odc)
 omega
theorem byteI_mod {v : Int} (hv : 0 ≤ v) : ((Z4 v).toNat : Int) = v % 256 := by
 unfold Z4
 simp; omega
theorem lowB_inj {v w : Int} (hv : 0 ≤ v ∧ v < 4294967296) (hw : 0 ≤ w ∧ w < 4294967296) (h : lowB v = lowB w) : v = w := by
 unfold lowB at h
 simp only [List.cons.injEq, and_true] at h
 obtain ⟨h1, h2, h3, h4⟩ := h
 have k : ∀ a b : Int, 0 ≤ a → 0 ≤ b → Z4 a = Z4 b → a % 256 = b % 256 := fun a b ha hb e => by rw [← byteI_mod ha, ← byteI_mod hb, e]
 have k1 := k _ _ om om h1
 have k2 := k _ _ om om h2
 have k3 := k _ _ om om h3
 have k4 := k _ _ om om h4
 omega
theorem XV (b : List UInt8) : (Z9 b).length = b.length + 12 := by simp [Z9, Yt, lowB]
theorem frameB_set {b c : List UInt8} {i : Nat} {x : UInt8} (h : Z9 c = (Z9 b).set i x) : Z9 c = Z9 b := by
 have hl : c.length = b.length := by have := congrArg List.length h; rw [List.length_set, XV, XV] at this; omega
 have key : ∀ b : List UInt8, Z9 b = Yt b.length ++ lowB (sumF [Yt b.length]) ++ (b ++ lowB (sumF [b])) := fun b => by unfold Z9; rw [List.append_assoc]
 have h8 : ∀ n, (Yt n ++ lowB (sumF [Yt n])).length = 8 := fun n => by simp [Yt, lowB]
 have hb : c = b := by
   have e1 : (Z9 c).drop 8 = c ++ lowB (sumF [c]) := by rw [key, List.drop_left' (h8 _)]
   have e2 : (Z9 b).drop 8 = b ++ lowB (sumF [b]) := by rw [key, List.drop_left' (h8 _)]
   have e3 : c ++ lowB (sumF [c]) = if i < 8 then b ++ lowB (sumF [b]) else (b ++ lowB (sumF [b])).set (i - 8) x := by
     rw [← e1, h, List.drop_set, e2]
   by_cases hi : i < 8
   ·rw [if_pos hi] at e3; exact (List.append_inj e3 hl).1
   ·rw [if_neg hi] at e3
    by_cases hj : i - 8 < b.length
    ·rw [List.set_append_left _ _ hj] at e3
     obtain ⟨f1, f2⟩ := List.append_inj e3 (by simpa using hl)
     have f3 := lowB_inj (sumF_lt c) (sumF_lt b) f2
     have s1 : b = b.take (i - 8) ++ b[i - 8] :: b.drop (i - 8 + 1) := by rw [List.getElem_cons_drop, List.take_append_drop]
     have s2 : c = b.take (i - 8) ++ x :: b.drop (i - 8 + 1) := by rw [f1, List.set_eq_take_append_cons_drop, if_pos hj]
     rw [s2, s1] at f3
     have s3 : x = b[i - 8] := by
       have t1 : (b.take (i - 8) ++ b[i - 8] :: b.drop (i - 8 + 1)).take (i - 8) = b.take (i - 8) := by rw [← s1]
       have t2 : (b.take (i - 8) ++ b[i - 8] :: b.drop (i - 8 + 1)).drop (i - 8 + 1) = b.drop (i - 8 + 1) := by rw [← s1]
       rw [t1, t2] at f3
       exact sumF_turn _ _ f3
     rw [s2, s3]; exact s1.symm
    ·rw [List.set_append_right _ _ om] at e3
     exact (List.append_inj e3 hl).1
 rw [hb]
theorem ohd {P : Prop} (g : P := by (try simp only [Pj]); (repeat first | rw [if_pos rfl] | rw [if_pos trivial] | rw [if_neg om]); first | done | rfl) : P := g
theorem rfQ_frame {b : List UInt8} (hb : b.length ≤ 1048576) : rfQ (Z9 b) = (b, ((8 + b.length + 4 : Nat) : Int), 0) := by
 have hl := XV b
 have hN : hd4 (Z9 b) = b.length := by
   rw [hd4_num om, List.drop_zero]
   have : (Z9 b).take 4 = Yt b.length := by unfold Z9; rw [List.append_assoc, List.append_assoc]; rfl
   rw [this, head_num om]
 have d4 : (Z9 b).take 4 = Yt b.length := by unfold Z9; rw [List.append_assoc, List.append_assoc]; rfl
 have d5 : ((Z9 b).drop 4).take 4 = lowB (sumF [Yt b.length]) := by unfold Z9; rw [List.append_assoc, List.append_assoc]; rfl
 have d8 : (Z9 b).drop 8 = b ++ lowB (sumF [b]) := by unfold Z9; rw [List.append_assoc, List.append_assoc]; rfl
 have d9 : (Z9 b).drop (8 + b.length) = lowB (sumF [b]) := by rw [← List.drop_drop, d8, List.drop_left]
 have l4 : ∀ v, (lowB v).take 4 = lowB v := fun v => rfl
 unfold rfQ
 rw [hN]
 unfold rfN
 rw [if_neg om, d5, d4, if_neg osi, if_neg om, if_neg om, d9, d8, List.take_left, l4, if_neg osi]
theorem rbB_B {b : List UInt8} {p most : Nat} {x w : List UInt8} (hx : x.length ≤ most) (hm : most < 18446744073709551616) (hp : p ≤ b.length) (hd : b.drop p = Zk x ++ w) : rbB b p most = (x, p + (Zk x).length, 0) := by
 unfold Zk at hd
 rw [List.append_assoc] at hd
 have e := ruB_B (v := x.length) om hp hd
 have hl := congrArg List.length hd
 simp only [List.length_drop, List.length_append] at hl
 have hu : 1 ≤ (Zh x.length).length := by rw [Zh]; split <;> simp
 have d2 : b.drop (p + (Zh x.length).length) = x ++ w := by rw [← List.drop_drop, hd, List.drop_left]
 unfold rbB
 rw [if_neg om, e]
 simp only
 rw [if_neg osi, if_neg om, if_neg om, d2, List.take_left]
 unfold Zk
 rw [List.length_append, Nat.add_assoc]
theorem X8 {v : Int} (h0 : 0 ≤ v) (h1 : v < 18446744073709551616) : ((u64 v : Nat) : Int) = v := by unfold u64; omega
theorem tokB_len (q : QryE) (t : Int) (row : List UInt8) (h : row.length ≤ 256) : (tokB q t row).length ≤ 300 := by
 unfold tokB
 rw [XV]
 have h1 := Zl (Z5 t)
 have h2 := Zl (Z5 (sumF [YE q]))
 have h3 := Zl (v := row.length) om
 unfold Zk
 simp only [List.length_append]
 omega
theorem KS {q : QryE} {t : Int} {row : List UInt8} (h : q.token = tokB q t row) (t1 : 1 ≤ t) (t2 : t ≤ 1099511627776) (hq : q.time = 0 ∨ q.time = t) (r1 : row.length ≠ 0) (r2 : row.length ≤ 256) (ha : Y1 q row = true) : ZM q = (t, row, 0) := by
 have e0 : ((u64 t : Nat) : Int) = t := X8 om om
 have hl := XV (Zh (u64 t) ++ Zk row ++ Zh (u64 (sumF [YE q])))
 have h1 := Zl (Z5 t)
 have h2 := Zl (Z5 (sumF [YE q]))
 have h3 := Zl (v := row.length) om
 have hb : (Zh (u64 t) ++ Zk row ++ Zh (u64 (sumF [YE q]))).length ≤ 1048576 := by unfold Zk; simp only [List.length_append]; omega
 have er : rfQ q.token = (Zh (u64 t) ++ Zk row ++ Zh (u64 (sumF [YE q])), ((8 + (Zh (u64 t) ++ Zk row ++ Zh (u64 (sumF [YE q]))).length + 4 : Nat) : Int), 0) := by rw [h]; exact rfQ_frame hb
 have eu := ruB_B (b := Zh (u64 t) ++ Zk row ++ Zh (u64 (sumF [YE q]))) (p := 0) (v := u64 t) (w := Zk row ++ Zh (u64 (sumF [YE q]))) (Z5 t) (Nat.zero_le _) (by rw [List.drop_zero, List.append_assoc])
 rw [Nat.zero_add] at eu
 have eb := rbB_B (b := Zh (u64 t) ++ Zk row ++ Zh (u64 (sumF [YE q]))) (p := (Zh (u64 t)).length) (most := 256) (x := row) (w := Zh (u64 (sumF [YE q]))) r2 om (by simp only [List.length_append]; omega) (by rw [List.append_assoc, List.drop_left])
 unfold ZM
 rw [if_neg (by rw [h]; unfold tokB; omega), er]
 simp only
 rw [if_neg osi, eu]
 simp only
 have hu : q.time ≠ 0 → u64 t = u64 q.time := fun hz => by rw [hq.resolve_left hz]
 rw [if_neg (by
   rintro (a | a | a | ⟨a, b⟩)
   ·exact a rfl
   ·omega
   ·omega
   ·exact b (hu a)), eb]
 simp only
 rw [if_neg (by
   rintro (a | a | a | a)
   ·exact a rfl
   ·exact r1 a
   ·rw [ha] at a; cases a
   ·rw [e0, ← h, beq_self_eq_true] at a; cases a), e0]
theorem readQ_is {q : QryE} (h : (ZM q).2.2 = 0) (h0 : q.token ≠ []) : q.token = tokB q (ZM q).1 (ZM q).2.1 := by
 unfold ZM at h ⊢
 have hl : q.token.length ≠ 0 := fun e => h0 (List.length_eq_zero_iff.1 e)
 rw [if_neg hl] at h ⊢
 split at h
 ·exact absurd h odc
 rename_i c1
 rw [if_neg c1]
 split at h
 ·exact absurd h odc
 rename_i c2
 rw [if_neg c2]
 split at h
 ·exact absurd h odc
 rename_i c3
 rw [if_neg c3]
 simp only
 have : (tokB q (ruB (rfQ q.token).1 0).1 (rbB (rfQ q.token).1 (ruB (rfQ q.token).1 0).2.1 256).1 == q.token) = true := by
   cases hh : (tokB q (ruB (rfQ q.token).1 0).1 (rbB (rfQ q.token).1 (ruB (rfQ q.token).1 0).2.1 256).1 == q.token)
   ·exact absurd (.inr (.inr (.inr hh))) c3
   ·rfl
 exact (eq_of_beq this).symm
theorem readQ_err (q : QryE) : (ZM q).2.2 = 0 ∨ (ZM q).2.2 = 132 := by
 unfold ZM
 split
 ·exact .inl rfl
 split
 ·exact .inr rfl
 split
 ·exact .inr rfl
 split
 ·exact .inr rfl
 ·exact .inl rfl
theorem readQ_turn {q : QryE} {q0 : QryE} {t : Int} {row : List UInt8} {i : Nat} {c : UInt8} (h : q.token = (tokB q0 t row).set i c) (hf : YE q = YE q0) (hne : q.token ≠ tokB q0 t row) : (ZM q).2.2 = 132 := by
 rcases readQ_err q with e | e
 ·exfalso
  have hl : (tokB q0 t row).length ≠ 0 := by unfold tokB; rw [XV]; omega
  have h0 : q.token ≠ [] := fun e => by rw [e] at h; exact hl (by rw [← List.length_set, ← h]; rfl)
  have hi := readQ_is e h0
  rw [h] at hi
  unfold tokB at hi
  have := frameB_set hi.symm
  apply hne
  rw [h]
  unfold tokB
  rw [hi]; exact this
 ·exact e
def dirB (rev : Bool) (a b : List UInt8) : Prop := if rev then Lib.compareBytes b a < 0 else Lib.compareBytes a b < 0
instance (rev : Bool) (a b : List UInt8) : Decidable (dirB rev a b) := by unfold dirB; infer_instance
def Vn (nf : Nat) (x : RowE) : Prop := x.row.length ≠ 0 ∧ x.row.length ≤ 256 ∧ WV nf x.cells = false
def visB (q : QryE) (t : Option Tst) (x : RowE) : Bool := Y1 q x.row && decide (Yy q t x.cells ≠ [])
def visR (q : QryE) (t : Option Tst) (x : RowE) : RowE := ⟨x.row, Yy q t x.cells⟩
def visL (q : QryE) (t : Option Tst) (l : List RowE) : List RowE := (l.filter (visB q t)).map (visR q t)
def XE (q : QryE) (start : List UInt8) (has : Bool) (row : List UInt8) : Bool := !has || (if q.rev then decide (Lib.compareBytes row start < 0) else decide (0 ≤ Lib.compareBytes row start))
theorem dirB_tr {rev : Bool} {a b c : List UInt8} (h : dirB rev a b) (h' : dirB rev b c) : dirB rev a c := by
 unfold dirB at *
 cases rev
 ·simp only [Bool.false_eq_true, if_false] at *; exact QH h om
 ·simp only [if_true] at *; exact QH h' om
theorem QF {rev : Bool} {a : List UInt8} (h : dirB rev a a) : False := by
 have := (U4 a a).2 rfl
 unfold dirB at h
 cases rev
 ·simp only [Bool.false_eq_true, if_false] at h; omega
 ·simp only [if_true] at h; omega
theorem beyond_on {q : QryE} {a b : List UInt8} (h : dirB q.rev a b) (ha : Ws q a = true) : Ws q b = true := by
 unfold Ws dirB at *
 cases hr : q.rev
 ·rw [hr] at h ha
  simp only [Bool.false_eq_true, if_false] at h
  simp only [Bool.not_false, Bool.true_and, Bool.false_and, Bool.or_false, Bool.and_eq_true, decide_eq_true_eq] at ha ⊢
  refine ⟨ha.1, ?_⟩
  have a1 := cb_ge.1 ha.2
  have := NH.1 (cb_le_lt a1 h)
  omega
 ·rw [hr] at h ha
  simp only [if_true] at h
  simp only [Bool.not_true, Bool.false_and, Bool.false_or, Bool.true_and, decide_eq_true_eq] at ha ⊢
  exact QH h om
section
variable {nf : Nat} {q : QryE} {t : Option Tst} {tk : List UInt8 → List UInt8} {start : List UInt8} {has : Bool}
theorem comes_of {x : RowE} (hx : Vn nf x) (ha : XE q start has x.row = true) {last : Option (List UInt8)} (hl : ∀ r, last = some r → dirB q.rev r x.row) : NG nf q x last start has = true := by
 obtain ⟨h1, h2, h3⟩ := hx
 unfold NG
 unfold XE at ha
 rw [decide_eq_false om, h3, ha]
 cases last with
 | none => rfl
 | some r =>
   have := hl r rfl
   unfold dirB at this
   cases hr : q.rev
   ·rw [hr] at this
    simp only [Bool.false_eq_true, if_false] at this ⊢
    have := NH.1 this
    simp [this]
   ·rw [hr] at this
    simp only [if_true] at this ⊢
    simp [this]
def UX (q : QryE) (tk : List UInt8 → List UInt8) (v : List RowE) : PgE :=
 if (v.length : Int) < q.rows then ⟨v, [], true⟩ else ⟨v.take q.rows.toNat, tk (v.getD (q.rows.toNat - 1) default).row, false⟩
theorem MK (hs : Jb q start has) : ∀ (l : List RowE) (m : Nat) (last : Option (List UInt8)) (acc : List RowE), (∀ x ∈ l, Vn nf x ∧ XE q start has x.row = true) →
   l.Pairwise (fun a b => dirB q.rev a.row b.row) → (∀ r, last = some r → ∀ x ∈ l, dirB q.rev r x.row) → (acc.length : Int) < q.rows →
   ∃ m', runG nf q t tk start has 0 m last acc l = (UX q tk (acc ++ visL q t l), m', 0)
 | [], m, last, acc, _, _, _, hk => by
   refine ⟨m + 1, ?_⟩
   unfold runG UX visL
   simp only [List.filter_nil, List.map_nil, List.append_nil]
   rw [if_neg osi, if_pos hk]
 | x :: l, m, last, acc, hg, hp, hl, hk => by
   obtain ⟨hx, ha⟩ := hg x osi
   have hc0 := comes_of (last := none) hx ha (fun r h => by cases h)
   have hc : YR q x.row last start has = true ∧ WV nf x.cells = false := by
     refine ⟨?_, hx.2.2⟩
     unfold YR
     rw [if_neg (by have := hx.1; have := hx.2.1; omega)]
     cases last with
     | none =>
       unfold XE at ha
       cases has with
       | false => simp
       | true => cases hr : q.rev <;> rw [hr] at ha <;> simpa using ha
     | some r =>
       have := hl r rfl x osi
       unfold dirB at this
       cases hr : q.rev
       ·rw [hr] at this
        simp only [Bool.false_eq_true, if_false] at this ⊢
        simpa using NH.1 this
       ·rw [hr] at this
        simp only [if_true] at this ⊢
        simpa using this
   have hb := LP hs hc0
   have hg2 : ∀ y ∈ l, Vn nf y ∧ XE q start has y.row = true := fun y hy => hg y (by simp [hy])
   have hp1 := (List.pairwise_cons.1 hp).1
   have hp2 := (List.pairwise_cons.1 hp).2
   have hl2 : ∀ r, some x.row = some r → ∀ y ∈ l, dirB q.rev r y.row := fun r hr y hy => by cases hr; exact hp1 y hy
   unfold runG
   rw [if_neg (by rw [hc.1]; simp), if_neg (by rw [hc.2]; simp)]
   by_cases hy : Ws q x.row = true
   ·rw [if_pos hy]
    have hall : ∀ y ∈ x :: l, visB q t y = false := fun y hm => by
      have e : Y1 q y.row = false := by
        rcases List.mem_cons.1 hm with rfl | hm
        ·rw [hy] at hb; simpa using hb
        ·have h1 := beyond_on (hp1 y hm) hy
         have h2 := LP hs (comes_of (last := none) (hg2 y hm).1 (hg2 y hm).2 (fun r h => by cases h))
         rw [h1] at h2; simpa using h2
      unfold visB; rw [e]; rfl
    have hv : visL q t (x :: l) = [] := by
      unfold visL
      rw [List.filter_eq_nil_iff.2 fun y hm => by rw [hall y hm]; simp]; rfl
    refine ⟨m + 1, ?_⟩
    unfold UX
    rw [hv, List.append_nil, if_pos hk]
   ·rw [if_neg hy]
    have hask : Y1 q x.row = true := by
      cases h : Y1 q x.row
      ·rw [h] at hb; exact absurd osb hy
      ·rfl
    by_cases he : Yy q t x.cells = []
    ·rw [if_pos he]
     have hv : visL q t (x :: l) = visL q t l := by
       unfold visL
       rw [List.filter_cons_of_neg (by unfold visB; rw [hask, he]; simp)]
     rw [hv]
     exact MK hs l (m + 1) (some x.row) acc hg2 hp2 hl2 hk
    ·rw [if_neg he]
     have hv : visL q t (x :: l) = visR q t x :: visL q t l := by
       unfold visL
       rw [List.filter_cons_of_pos (by unfold visB; rw [hask, decide_eq_true he]; rfl), List.map_cons]
     by_cases hr : ((acc.length + 1 : Nat) : Int) = q.rows
     ·rw [if_pos hr]
      refine ⟨m + 1, ?_⟩
      have hn : q.rows.toNat = acc.length + 1 := om
      have hlt : ¬ ((acc ++ visL q t (x :: l)).length : Int) < q.rows := by rw [hv, List.length_append, List.length_cons]; omega
      unfold UX
      rw [if_neg hlt, hv, hn]
      have e1 : (acc ++ visR q t x :: visL q t l).take (acc.length + 1) = acc ++ [visR q t x] := by rw [List.take_append, List.take_of_length_le om]; simp
      have e2 : (acc ++ visR q t x :: visL q t l).getD (acc.length + 1 - 1) default = visR q t x := by simp [List.getD]
      rw [e1, e2]; rfl
     ·rw [if_neg hr]
      have := MK hs l (m + 1) (some x.row) (acc ++ [visR q t x]) hg2 hp2 hl2 (by rw [List.length_append]; simp; omega)
      rw [hv]
      rw [List.append_assoc, List.singleton_append] at this
      exact this
end
def dirL (q : QryE) (l : List RowE) : List RowE := if q.rev then l.reverse else l
def X0 (q : QryE) (l : List RowE) : List RowE := (dirL q l).filter fun x => XE q (ZC q).1 (ZC q).2.1 x.row
def upL (l : List RowE) : Prop := l.Pairwise fun a b => Lib.compareBytes a.row b.row < 0
theorem dirL_up {q : QryE} {l : List RowE} (h : upL l) : (dirL q l).Pairwise fun a b => dirB q.rev a.row b.row := by
 unfold dirL dirB
 cases q.rev
 ·simp only [Bool.false_eq_true, if_false]; exact h
 ·simp only [if_true]
  rw [List.pairwise_reverse]; exact h
theorem UH {q : QryE} {l : List RowE} {x : RowE} : x ∈ dirL q l ↔ x ∈ l := by
 unfold dirL; split
 ·exact List.mem_reverse
 ·exact Iff.rfl
def allV (q : QryE) (t : Option Tst) (l : List RowE) : List RowE := visL q t (dirL q l)
theorem visL_up {q : QryE} {t : Option Tst} {l : List RowE} (h : l.Pairwise fun a b => dirB q.rev a.row b.row) : (visL q t l).Pairwise fun a b => dirB q.rev a.row b.row := by
 unfold visL
 rw [List.pairwise_map]
 exact h.sublist List.filter_sublist
theorem allV_up {q : QryE} {t : Option Tst} {l : List RowE} (h : upL l) : (allV q t l).Pairwise fun a b => dirB q.rev a.row b.row := visL_up (dirL_up h)
theorem visL_from {q : QryE} {t : Option Tst} {l : List RowE} : visL q t (X0 q l) = (allV q t l).filter fun y => XE q (ZC q).1 (ZC q).2.1 y.row := by
 unfold visL X0 allV visL
 rw [List.filter_map, List.filter_filter, List.filter_filter]
 congr 1
 exact List.filter_congr fun x _ => by rw [Bool.and_comm]; rfl
theorem cb_snoc0 (x r : List UInt8) : 0 ≤ Lib.compareBytes x (r ++ [0]) ↔ Lib.compareBytes r x < 0 := by
 induction r generalizing x with
 | nil =>
   cases x with
   | nil => simp [Lib.compareBytes]
   | cons a x =>
     show 0 ≤ (if a < 0 then (-1 : Int) else if 0 < a then 1 else Lib.compareBytes x []) ↔ (-1 : Int) < 0
     have h0 : ¬ a < 0 := osi
     rw [if_neg h0]
     have := cb_nil x
     split <;> simp_all
 | cons b r ih =>
   cases x with
   | nil => simp [Lib.compareBytes]
   | cons a x =>
     rw [List.cons_append, Jm, Jm]
     by_cases h1 : a < b
     ·have h2 : ¬ b < a := fun h => absurd (UInt8.lt_trans h1 h) (UInt8.lt_irrefl _)
      rw [if_pos h1, if_neg h2, if_pos h1]; decide
     ·rw [if_neg h1]
      by_cases h2 : b < a
      ·rw [if_pos h2, if_pos h2]; decide
      ·rw [if_neg h2, if_neg h2, if_neg h1]; exact ih x
theorem from_none {q : QryE} {t : Option Tst} {l : List RowE} (h : q.token = []) : visL q t (X0 q l) = allV q t l := by
 rw [visL_from]
 refine List.filter_eq_self.2 fun y hy => ?_
 have hr : ZM q = (0, [], 0) := by unfold ZM; rw [if_pos (by rw [h]; rfl)]
 have ha : Y1 q y.row = true := by
   unfold allV visL at hy
   obtain ⟨x, hx, rfl⟩ := List.mem_map.1 hy
   have := (List.mem_filter.1 hx).2
   unfold visB at this
   simp only [Bool.and_eq_true] at this
   exact this.1
 unfold Y1 at ha
 simp only [Bool.and_eq_true, Bool.or_eq_true, decide_eq_true_eq] at ha
 unfold XE ZC
 rw [hr]
 simp only
 rw [if_neg osi, if_neg osi]
 cases hv : q.rev
 ·simp only [Bool.false_eq_true, if_false]
  simp [ha.1]
 ·simp only [if_true]
  rcases ha.2 with h1 | h1
  ·simp [h1]
  ·simp [h1]
theorem from_tok {q : QryE} {t : Option Tst} {l : List RowE} {tm : Int} {r : List UInt8} (h : ZM q = (tm, r, 0)) (h1 : 1 ≤ tm) : visL q t (X0 q l) = (allV q t l).filter fun y => decide (dirB q.rev r y.row) := by
 rw [visL_from]
 refine List.filter_congr fun y _ => ?_
 unfold XE ZC dirB
 rw [h]
 simp only
 rw [if_neg osi, if_pos om]
 cases hv : q.rev
 ·simp only [Bool.false_eq_true, if_false, Bool.not_true, Bool.false_or]
  exact decide_eq_decide.2 (cb_snoc0 _ _)
 ·simp
theorem Jz {α : Type} {R : α → α → Prop} [DecidableRel R] (tr : ∀ a b c, R a b → R b c → R a c) (ir : ∀ a, ¬ R a a) : ∀ (V : List α) (j : Nat) (hj : j < V.length), V.Pairwise R → V.filter (fun y => decide (R V[j] y)) = V.drop (j + 1)
 | [], j, hj, _ => by simp at hj
 | a :: V, 0, _, h => by
   obtain ⟨h1, h2⟩ := List.pairwise_cons.1 h
   simp only [List.getElem_cons_zero, List.drop_succ_cons, List.drop_zero]
   rw [List.filter_cons_of_neg (by simp [ir a])]
   exact List.filter_eq_self.2 fun y hy => decide_eq_true (h1 y hy)
 | a :: V, j + 1, hj, h => by
   obtain ⟨h1, h2⟩ := List.pairwise_cons.1 h
   simp only [List.getElem_cons_succ, List.drop_succ_cons]
   have hj' : j < V.length := by simpa using hj
   have hn : ¬ R V[j] a := fun e => ir _ (tr _ _ _ e (h1 V[j] (List.getElem_mem hj')))
   rw [List.filter_cons_of_neg (by simp [hn])]
   exact Jz tr ir V j hj' h2
theorem from_at {q : QryE} {t : Option Tst} {l : List RowE} {tm : Int} {j : Nat} (hl : upL l) (hj : j < (allV q t l).length) (h : ZM q = (tm, (allV q t l)[j].row, 0)) (h1 : 1 ≤ tm) : visL q t (X0 q l) = (allV q t l).drop (j + 1) := by
 rw [from_tok h h1]
 exact Jz (R := fun a b : RowE => dirB q.rev a.row b.row) (fun a b c => dirB_tr) (fun a => QF) _ j hj (allV_up hl)
theorem run_from {fs : List Fml} {q : QryE} {clock : Int} {l : List RowE} (hq : qcE fs q = 0) (hc : 1 ≤ clock ∧ clock ≤ 1099511627776) (hl : upL l) (hg : ∀ x ∈ l, Vn fs.length x) :
   ∃ m, runE fs q clock (some (X0 q l, 0)) = (UX q (tokB q (atE q clock).1) (visL q (Yv fs q) (X0 q l)), m, 0) := by
 have hr : (ZM q).2.2 = 0 := by
   unfold qcE at hq
   split at hq
   ·rename_i h; exact absurd hq h
   split at hq
   ·exact absurd hq odc
   split at hq
   ·rename_i h; exact absurd hq h.2
   ·exact hq
 have hrows : 1 ≤ q.rows := by
   unfold qcE at hq
   split at hq
   ·rename_i h; exact absurd hq h
   split at hq
   ·exact absurd hq odc
   rename_i h
   have h : Yk fs.length q = true := by simpa using h
   unfold Yk Vk at h
   simp only [Bool.and_eq_true, decide_eq_true_eq] at h
   omega
 have ha : (atE q clock).2 = 0 := by
   unfold atE
   rw [if_neg om, if_neg (by rw [hr]; simp)]
   split
   ·rfl
   ·split <;> rfl
 unfold runE
 rw [if_neg (by rw [hq]; simp), if_neg (by rw [ha]; simp)]
 obtain ⟨m, hm⟩ := MK (nf := fs.length) (t := Yv fs q) (tk := tokB q (atE q clock).1) (startE_ok q hr) (X0 q l) 0 none []
   (fun x hx => by
     obtain ⟨h1, h2⟩ := List.mem_filter.1 hx
     exact ⟨hg x (UH.1 h1), h2⟩)
   ((dirL_up hl).sublist List.filter_sublist) (fun r h => by cases h) oz
 exact ⟨m, hm⟩
end Go.Proofs.YtkmkbndcekklmaaGreatDoor
set_option maxRecDepth 10000
namespace Go.Proofs.YtkmkbndcekklmaaGreatDoor
open Go Go.Sx Go.Rt Go.Proofs Tryz
def Qw (q : QryE) : QryE := { q with token := [], rows := 1000 }
def qBare (q : QryE) : QryE := { Qw q with fams := [], whr := [] }
def qZero (b : Bool) : QryE := { frm := [], to := [], fams := [], pre := [], time := 0, n := 1, rows := 1000, rev := b, whr := [], token := [] }
def XI (fs : List Fml) (q : QryE) : QryE :=
 if qcE fs (Qw q) = 0 then Qw q else if qcE fs (qBare q) = 0 then qBare q else qZero q.rev
theorem UV {q : QryE} (h : q.fine) : (Qw q).fine := ⟨h.frm, h.to, h.fams, h.pre, h.whr, Nat.zero_le _⟩
theorem JI {q : QryE} (h : q.fine) : (qBare q).fine := ⟨h.frm, h.to, Nat.zero_le _, h.pre, Nat.zero_le _, Nat.zero_le _⟩
theorem qZero_fine (b : Bool) : (qZero b).fine := ⟨Nat.zero_le _, Nat.zero_le _, Nat.zero_le _, Nat.zero_le _, Nat.zero_le _, Nat.zero_le _⟩
theorem Nr {fs : List Fml} {q : QryE} (h : q.fine) : (XI fs q).fine := by
 unfold XI
 split
 ·exact UV h
 ·split
  ·exact JI h
  ·exact qZero_fine _
theorem goodE_token (fs : List Fml) (q : QryE) : (XI fs q).token = [] := by unfold XI; split; rfl; split <;> rfl
theorem qZero_good {fs : List Fml} (h : Zv fs = 0) (b : Bool) : qcE fs (qZero b) = 0 := by
 unfold qcE
 rw [if_neg (by simp [h]), if_neg (by cases b <;> simp [Yk, Qe, Uj, Vk, qZero]), if_neg (by rintro ⟨a, _⟩; simp [qZero] at a)]
 rfl
theorem Nq {fs : List Fml} (h : Zv fs = 0) (q : QryE) : qcE fs (XI fs q) = 0 := by
 unfold XI
 split
 ·assumption
 ·split
  ·assumption
  ·exact qZero_good h _
theorem wk_qa {q : QryE} {f t m p k : AV} (hf : Wk f (bys q.frm)) (ht : Wk t (bys q.to)) (hm : Wk m (Zu q.fams)) (hp : Wk p (bys q.pre)) (hk : Wk k (bys q.token)) : WkL [qaX q f t m p k] [Zg q] :=
 ⟨Wk.agg ⟨hf, ht, hm, hp, .refl _, .refl _, .refl _, .refl _, .refl _, hk, trivial⟩, trivial⟩
theorem NT40.eqs {P Q : Prop} (g : Imp P Q := by (try simp only [go_sem, seval, hszs, hags, hmos, hnum, hnua, hnum2, hszq, hagq, hmoq, f1, f2, f3, f4, f5, f6, b1, b2, b3]); exact Pm) : Imp P Q := g
set_option maxHeartbeats 3200000 in
open NT40 NY in
theorem c_law13_good (fs : List Fml) (hfs : fs.length ≤ 1048576) (q : QryE) (hq : q.fine) {H : Heap} {n : Nat} : Ret prog 13 [Zi fs, Zg q] H n (Zg (XI fs q)) H n := by
 have hszs : (Zi fs).sz = 1 := rfl
 have hags : (Zi fs).isAgg = true := rfl
 have hmos : (Zi fs).memOK = true := rfl
 have hszq : ∀ q, (Zg q).sz = 10 := Z6
 have hagq : ∀ q, (Zg q).isAgg = true := fun _ => rfl
 have hmoq : ∀ q, (Zg q).memOK = true := fun _ => rfl
 have hnum : ∀ l, (Zu l).sz = 1 := fun _ => rfl
 have hnua : ∀ l, (Zu l).isAgg = false := fun _ => rfl
 have hnum2 : ∀ l, (Zu l).memOK = true := fun _ => rfl
 have f1 : (n = n + 1) = False := osi
 have f2 : (n + 1 = n) = False := osi
 have f3 : (n = n + 2) = False := osi
 have f4 : (n + 1 = n + 2) = False := osi
 have f5 : (n + 2 = n) = False := osi
 have f6 : (n + 2 = n + 1) = False := osi
 have b1 := hszs
 have b2 := hszs
 have b3 := hszs
 obtain ⟨z, hz⟩ : ∃ z, z = XI fs q := ⟨_, rfl⟩
 rw [← hz]
 unfold XI at hz
 refine Ret.fin ?_
 refine fw func13 ntmps13 results13 ?_
 refine rg zs [2, 3, 4] ?_
 refine rk zs [2, 3, 4] fun K J => ?_
 refine ck func32 ((N7 q hq _ _)) ?_
 apply J; clear J K
 refine Zf zs [2, 3, 4] fun K J => ?_
 try simp only [go_sem, seval, hszs, hags, hmos, hnum, hnua, hnum2, hszq, hagq, hmoq, f1, f2, f3, f4, f5, f6, b1, b2, b3, Zg]
 repeat refine peel ?_
 apply J; clear J K
 refine Zf zs [2, 3, 4] fun K J => ?_
 try simp only [go_sem, seval, hszs, hags, hmos, hnum, hnua, hnum2, hszq, hagq, hmoq, f1, f2, f3, f4, f5, f6, b1, b2, b3, Zg]
 repeat refine peel ?_
 apply J; clear J K
 refine ZQ [2, 3, 4] (fun T' H' n' => ∃ (a : AV) (q2 : QryE) (o : AV), T' = tl [(2, .loc n 0 0 0 []), (3, .loc (n + 1) 0 0 0 []), (4, .loc (n + 2) 0 0 0 [])] ∧ H' n = some (.arr 0 1 [Zi fs]) ∧ H' (n + 1) = some (.arr 0 10 [qaX q2 (bys q2.frm) (bys q2.to) a (bys q2.pre) (bys q2.token)]) ∧ Wk a (Zu q2.fams) ∧ q2.fine ∧ (z = if qcE fs q2 = 0 then q2 else qZero q.rev) ∧ q2.rev = q.rev ∧ H' (n + 2) = some (.arr 0 10 [o]) ∧ o.sz = 10 ∧ (∀ k, k < n → H' k = H k) ∧ n' = n + 3) ?_ ?_
 ·refine WP (n + 1) (els := [qaX (Qw q) (bys q.frm) (bys q.to) (Zu q.fams) (bys q.pre) .nilsl]) (els' := [Zg (Qw q)]) ohd (wk_qa (.refl _) (.refl _) (.refl _) (.refl _) (.nilsl 1)) ?_
  refine rk zs [2, 3, 4, 12] fun K J => ?_
  refine ck func38 ((Ul fs hfs (Qw q) (UV hq) _ _)) ?_
  apply J; clear J K
  refine Zb ?_ ?_ <;> intro hb
  ·have h1 : ¬ qcE fs (Qw q) = 0 := osb
   rw [if_neg h1] at hz
   refine Zf zs [2, 3, 4] fun K J => ?_
   try simp only [go_sem, seval, hszs, hags, hmos, hnum, hnua, hnum2, hszq, hagq, hmoq, f1, f2, f3, f4, f5, f6, b1, b2, b3, Zg, Qw]
   repeat refine peel ?_
   apply J; clear J K
   refine rg1 zs [2, 3, 4] ?_
   refine ns ?_
   first
   | (refine ⟨.nilsl, qBare q, .agg [.nilsl, .nilsl, .nilsl, .nilsl, .int .i64 0, .int .i64 0, .int .i64 0, .bool false, .str [], .nilsl], ?_⟩
      (repeat' apply And.intro) <;> first | rfl | exact .refl _ | exact .nilsl 1 | exact (Wk.nilsl 1).2 | exact fun _ _ _ h => h | exact UV hq | exact JI hq | exact hz | (rw [if_pos h1]; exact hz) | (intro k hk; exact oh) | ((try simp only [Pj]); (repeat first | rw [if_pos rfl] | rw [if_pos trivial] | rw [if_neg om]); first | done | rfl))
  have h1 : qcE fs (Qw q) = 0 := osb
  rw [if_pos h1] at hz
  refine ak ?_
  refine ns ?_
  first
  | (refine ⟨Zu q.fams, Qw q, .agg [.nilsl, .nilsl, .nilsl, .nilsl, .int .i64 0, .int .i64 0, .int .i64 0, .bool false, .str [], .nilsl], ?_⟩; have h7 := h1
     (repeat' apply And.intro) <;> first | rfl | exact .refl _ | exact .nilsl 1 | exact (Wk.nilsl 1).2 | exact fun _ _ _ h => h | exact UV hq | exact JI hq | exact hz | (rw [if_pos h1]; exact hz) | (intro k hk; exact oh) | ((try simp only [Pj]); (repeat first | rw [if_pos rfl] | rw [if_pos trivial] | rw [if_neg om]); first | done | rfl))
 rintro T8 H8 n8 ⟨a, q2, o, rfl, b1, b2, hwk, hq2, hz2, hrv, b3, ho, hlow, rfl⟩
 refine Za fun K1 hK1 => ?_
 refine WP (n + 1) (els' := [Zg q2]) b2 (wk_qa (.refl _) (.refl _) hwk (.refl _) (.refl _)) ?_
 refine rk zs [3, 4, 18] fun K J => ?_
 refine ck func38 ((Ul fs hfs q2 hq2 _ _)) ?_
 apply J; clear J K
 refine Zb ?_ ?_ <;> intro hb
 ·have h2 : ¬ qcE fs q2 = 0 := osb
  rw [if_neg h2] at hz2
  refine Zf zs [4] fun K J => ?_
  try simp only [go_sem, seval, hszs, hags, hmos, hnum, hnua, hnum2, hszq, hagq, hmoq, f1, f2, f3, f4, f5, f6, b1, b2, b3, Zg, b3, ho, hrv]
  repeat refine peel ?_
  apply J; clear J K
  refine ar ?_
  rw [hz2]
  exact ⟨_, rfl, fun k hk => ohx (hlow k hk), .agg (.cons .nilsl (.cons .nilsl (.cons .nilsl (.cons .nilsl (.cons (.kl trivial) (.cons (.kl trivial) (.cons (.kl trivial) (.cons (.kl trivial) (.cons (.kl trivial) (.cons .nilsl .nil))))))))))⟩
 have h2 : qcE fs q2 = 0 := osb
 rw [if_pos h2] at hz2
 refine ak ?_
 apply hK1
 refine kag ?_
 rw [hz2]
 exact ⟨_, rfl, fun k hk => ohx (hlow k hk), .kl (kl_qry _ _)⟩
theorem dirL_take {q : QryE} {l : List RowE} {i : Nat} (h : i < l.length) (p : RowE → Bool) : ((dirL q l).take (i + 1)).filter p = ((dirL q l).take i).filter p ++ (if p ((dirL q l).getD i default) then [(dirL q l).getD i default] else []) := by
 have hl : (dirL q l).length = l.length := by unfold dirL; split <;> simp
 rw [List.take_succ_eq_append_getElem om, List.filter_append]
 congr 1
 have e : (dirL q l).getD i default = (dirL q l)[i]'om := by simp [List.getD, hl, h]
 rw [e]
 simp [List.filter_cons]
theorem dirL_at {q : QryE} {l : List RowE} {i : Nat} (h : i < l.length) : (dirL q l).getD i default = if q.rev then l.getD (l.length - 1 - i) default else l.getD i default := by
 unfold dirL
 cases q.rev
 ·rfl
 ·simp only [if_true]
  simp [List.getD, List.getElem?_reverse h]
theorem NT42.eqs {P Q : Prop} (g : Imp P Q := by (try simp only [go_sem, seval, hnum, hnua, hnum2, hszq, hagq, hmoq, hszr, hagr, hmor, b1, b2, hnth, hn2, e1, e2, e3, g1, g2, hse, XN, Nat.add_assoc, List.length_map, Int.toNat_natCast, Zq]); exact Pm) : Imp P Q := g
theorem NT42.sd {P : Prop} (g : P := by first | (intro _ h8 h9; rw [h8, h9]; rfl) | (intro _ h8; rw [h8]; rfl) | exact ⟨om, om⟩ | exact ⟨rfl, by (simp [AV.sz, AV.szs, AV.memOK, hszr, hmor]; first | done | fail)⟩ | exact ⟨Nat.le_refl _, .inr trivial, om, om⟩ | fail) : P := g
set_option maxHeartbeats 6400000 in
open NT42 NZ in
theorem Kv (q : QryE) (hq : q.fine) (hr0 : (ZM q).2.2 = 0) (l : List RowE) (hl : Yh l) {H : Heap} {n : Nat} (hG : GOK 1 1 H n) : Ret prog 15 [Zg q, .sl 2 (l.map Ze)] H n (.tup [.sl 2 ((X0 q l).map Ze), .bool true]) H n := by
 have hszq : ∀ q, (Zg q).sz = 10 := Z6
 have hagq : ∀ q, (Zg q).isAgg = true := fun _ => rfl
 have hmoq : ∀ q, (Zg q).memOK = true := fun _ => rfl
 have hnum : ∀ l, (Zu l).sz = 1 := fun _ => rfl
 have hnua : ∀ l, (Zu l).isAgg = false := fun _ => rfl
 have hnum2 : ∀ l, (Zu l).memOK = true := fun _ => rfl
 have hszr : ∀ r, (Ze r).sz = 2 := Qr
 have hagr : ∀ r, (Ze r).isAgg = true := fun _ => rfl
 have hmor : ∀ r, (Ze r).memOK = true := fun _ => rfl
 have hls := hl.1
 have hse : (ZC q).2.2 = 0 := by unfold ZC; rw [if_neg (by simp [hr0])]; split; rfl; split <;> rfl
 have b1 := hls
 have b2 := hls
 have hnth := hls
 have hn2 := hls
 have e1 := hls
 have e2 := hls
 have e3 := hls
 have g1 := hls
 have g2 := hls
 have hge : ∀ a b : List UInt8, (!Op.bytesLess a b) = decide (0 ≤ Lib.compareBytes a b) := fun a b => by
   rw [(X5 a b).2, Bool.eq_iff_iff]; simp
 have hlt : ∀ a b : List UInt8, Op.bytesLess a b = decide (Lib.compareBytes a b < 0) := fun a b => (X5 a b).2
 obtain ⟨F, hF⟩ : ∃ F : Nat → List RowE, F = fun i => ((dirL q l).take i).filter fun x => XE q (ZC q).1 (ZC q).2.1 x.row := ⟨_, rfl⟩
 have hFl : ∀ i, (F i).length ≤ i := fun i => by rw [hF]; exact Nat.le_trans (List.length_filter_le _ _) (by rw [List.length_take]; omega)
 refine Ret.fin ?_
 refine fw func15 ntmps15 results15 ?_
 refine rg zs [1, 2] ?_
 refine rk zs [1, 2, 6, 7, 8] fun K J => ?_
 refine ck func24 ((Uh hq (hG.on (fun k hk => oh) om) (QL.ro q _))) ?_
 apply J; clear J K
 refine Za fun K1 hK1 => ?_
 refine rk zs [1, 2, 6, 7, 22] fun K J => ?_
 refine ck func20 ((Y4 _ _ _)) ?_
 apply J; clear J K
 refine Zb ?_ ?_ <;> intro hb
 ·exact absurd hb osi
 refine ak ?_
 apply hK1
 refine rg zs [1, 2, 6, 7, 9] ?_
 refine Za fun K2 hK2 => ?_
 refine rg zs [1, 2, 6, 7, 9, 10] ?_
 refine kbM ?_
 refine Z8 9 2 rfl ?_
 refine Yp [1, 2, 6, 7, 9, 10] ?_
 refine ns ?_
 refine Zp (fun T' H' n' => ∃ (i ver : Nat), i ≤ l.length ∧ T' = tl [(1, .sl 2 (l.map Ze)), (2, .loc n 0 0 0 []), (6, bys (ZC q).1), (7, .bool (ZC q).2.1), (9, .osl (n + 1) ver 0 (F i).length), (10, .int .i64 i)] ∧ H' n = some (.arr 0 10 [Zg q]) ∧ H' (n + 1) = some (.arr ver 2 ((F i).map Ze)) ∧ (∀ k, k < n → H' k = H k) ∧ n + 2 ≤ n') (fun T' _ _ => l.length - iv (T' 10)) ?_ ?_
 ·exact ⟨0, 0, Nat.zero_le _, by rw [hF]; rfl, oh, by rw [hF]; refine ohx ?_; rfl, fun k hk => oh, om⟩
 rintro T1 H1 n1 ⟨i, ver, hi, rfl, b1, b2, hlow, hn1⟩
 refine Za fun K3 hK3 => ?_
 refine rg zs [1, 2, 6, 7, 9, 10, 26] ?_
 refine Zb ?_ ?_ <;> intro hb
 ·have hci : i < l.length := ott
  have hnth : nth (l.map Ze) i = Ze (l.getD i default) := Zx Ze l i hci
  have hn2 : nth (l.map Ze) (l.length - 1 - i) = Ze (l.getD (l.length - 1 - i) default) := Zx Ze l _ om
  have e1 : IntKind.i64.wrap ((i : Int) + 1) = ((i + 1 : Nat) : Int) := w1 om
  have e2 : IntKind.i64.wrap ((l.length : Int) - 1) = ((l.length - 1 : Nat) : Int) := by rw [w64 om om]; omega
  have e3 : IntKind.i64.wrap (((l.length - 1 : Nat) : Int) - (i : Int)) = ((l.length - 1 - i : Nat) : Int) := by rw [w64 om om]; omega
  have g1 : (n = n1) = False := oz
  have g2 : (n + 1 = n1) = False := oz
  have hst := dirL_take (q := q) hci (fun x => XE q (ZC q).1 (ZC q).2.1 x.row)
  have hF1 : F (i + 1) = F i ++ (if XE q (ZC q).1 (ZC q).2.1 ((dirL q l).getD i default).row then [(dirL q l).getD i default] else []) := by rw [hF]; exact hst
  have hda := dirL_at (q := q) hci
  have hFi := hFl i
  obtain ⟨x, hx⟩ : ∃ x, x = (dirL q l).getD i default := ⟨_, rfl⟩
  rw [← hx] at hF1 hda
  refine ak ?_
  apply hK3
  refine ZQ [1, 2, 6, 7, 9, 10] (fun T' H' n' => ∃ ver, T' = tl [(1, .sl 2 (l.map Ze)), (2, .loc n 0 0 0 []), (6, bys (ZC q).1), (7, .bool (ZC q).2.1), (9, .osl (n + 1) ver 0 (F (i + 1)).length), (10, .int .i64 i)] ∧ H' n = some (.arr 0 10 [Zg q]) ∧ H' (n + 1) = some (.arr ver 2 ((F (i + 1)).map Ze)) ∧ (∀ k, k < n → H' k = H k) ∧ n + 2 ≤ n') ?_ ?_
  ·refine kbM ?_
   refine rg zs [1, 2, 6, 7, 9, 10, 11] ?_
   refine ZQ [1, 2, 6, 7, 9, 10, 11] (fun T' H' n' => T' = tl [(1, .sl 2 (l.map Ze)), (2, .loc n 0 0 0 []), (6, bys (ZC q).1), (7, .bool (ZC q).2.1), (9, .osl (n + 1) ver 0 (F i).length), (10, .int .i64 i), (11, .loc n1 0 0 0 [])] ∧ H' = H1.put n1 (some (.arr 0 2 [Ze x])) ∧ n' = n1 + 1) ?_ ?_
   ·refine Zf zs [1, 2, 6, 7, 9, 10, 11, 34] fun K J => ?_
    try simp only [go_sem, seval, hnum, hnua, hnum2, hszq, hagq, hmoq, hszr, hagr, hmor, b1, b2, hnth, hn2, e1, e2, e3, g1, g2, hse, XN, Nat.add_assoc, List.length_map, Int.toNat_natCast, Zq, Zg]
    repeat refine peel ?_
    apply J; clear J K
    refine Zb ?_ ?_ <;> intro hb
    ·rw [if_pos hb] at hda
     refine rg1 zs [1, 2, 6, 7, 9, 10, 11] ?_
     refine ns ?_
     rw [hda]
    rw [if_neg (by simp [hb])] at hda
    refine ak ?_
    refine ns ?_
    rw [hda]
   rintro T8 H8 n8 ⟨rfl, rfl, rfl⟩
   refine Zf zs [1, 2, 6, 7, 9, 10, 11, 12] fun K J => ?_
   try simp only [go_sem, seval, hnum, hnua, hnum2, hszq, hagq, hmoq, hszr, hagr, hmor, b1, b2, hnth, hn2, e1, e2, e3, g1, g2, hse, XN, Nat.add_assoc, List.length_map, Int.toNat_natCast, Zq, Zg, Ze, bys]
   repeat (first | (refine And.intro ?_ ?_; · first | (intro _; exact Yl _) | (intro _ h8; rw [h8]; rfl)) | refine peel ?_)
   apply J; clear J K
   refine Zf zs [1, 2, 6, 7, 9, 10, 11, 12, 13] fun K J => ?_
   try simp only [go_sem, seval, hnum, hnua, hnum2, hszq, hagq, hmoq, hszr, hagr, hmor, b1, b2, hnth, hn2, e1, e2, e3, g1, g2, hse, XN, Nat.add_assoc, List.length_map, Int.toNat_natCast, Zq, Zg, Ze, bys]
   repeat (first | (refine And.intro ?_ ?_; · first | (intro _; exact Yl _) | (intro _ h8; rw [h8]; rfl)) | refine peel ?_)
   apply J; clear J K
   refine rg zs [1, 2, 6, 7, 9, 10, 11, 73] ?_
   refine Zb ?_ ?_ <;> intro hb
   ·have hyes : XE q (ZC q).1 (ZC q).2.1 x.row = true := by unfold XE; have h9 := hb; clear hb; revert h9; cases (ZC q).2.1 <;> cases q.rev <;> intro h9 <;> first | rfl | (simp [hlt] at h9 ⊢; omega) | (simp at h9; done)
    refine rg1 zs [1, 2, 6, 7, 9, 10] ?_
    refine ns ?_
    first
    | (rw [hF1, hyes, if_pos rfl]
       rw [List.take_of_length_le (show ((F i).map Ze).length ≤ (F i).length by simp)]
       refine ⟨ver + 1, ?_⟩; (repeat' apply And.intro) <;> first | rfl | (rw [List.length_append]; rfl) | ((try simp only [Pj]); (repeat first | rw [if_pos rfl] | rw [if_pos trivial] | rw [if_neg om]); first | done | exact b1 | exact b2 | (rw [List.map_append]; rfl)) | (intro k hk; refine ohx ?_; exact hlow k hk) | omega)
   have hno : XE q (ZC q).1 (ZC q).2.1 x.row = false := by unfold XE; have h9 := hb; clear hb; revert h9; cases (ZC q).2.1 <;> cases q.rev <;> intro h9 <;> first | rfl | (simp [hlt] at h9 ⊢; omega) | (simp at h9; done)
   refine ak ?_
   refine ns ?_
   first
   | (rw [hF1, hno, if_neg osi, List.append_nil]
      refine ⟨ver, ?_⟩; (repeat' apply And.intro) <;> first | rfl | (rw [List.length_append]; rfl) | ((try simp only [Pj]); (repeat first | rw [if_pos rfl] | rw [if_pos trivial] | rw [if_neg om]); first | done | exact b1 | exact b2 | (rw [List.map_append]; rfl)) | (intro k hk; refine ohx ?_; exact hlow k hk) | omega)
  rintro T3 H3 n3 ⟨ver3, rfl, b1, b2, hlow, hn3⟩
  refine rg1 zs [1, 2, 6, 7, 9, 10] ?_
  exact ⟨⟨i + 1, ver3, om, rfl, rfl, hlow, hn3⟩, om⟩
 have hci : i = l.length := otf
 refine ax ?_
 apply hK2
 refine rg zs [4, 5] ?_
 refine ar ?_
 subst hci
 have hFe : F l.length = X0 q l := by rw [hF]; unfold X0; show List.filter _ (List.take l.length (dirL q l)) = _; rw [List.take_of_length_le (by unfold dirL; split <;> simp)]
 rw [hFe] at b2 ⊢
 exact ⟨_, rfl, hlow, .tup (.cons (.osl b2 om osi (by rw [List.drop_zero, List.take_of_length_le osi]; exact XR _ (XQ Ze (fun r => kl_row r _) _))) (.cons (.kl trivial) .nil))⟩
end Go.Proofs.YtkmkbndcekklmaaGreatDoor
set_option maxRecDepth 10000
namespace Go.Proofs.YtkmkbndcekklmaaGreatDoor
open Go Go.Sx Go.Rt Go.Proofs
theorem JE : Zv twoF = 0 := by decide +kernel
theorem Je {fs : List Fml} {q : QryE} (h : qcE fs q = 0) : Zv fs = 0 ∧ Yk fs.length q = true ∧ ¬ (0 < q.whr.length ∧ (Y5 fs q.whr).2.1 ≠ 0) ∧ (ZM q).2.2 = 0 := by
 unfold qcE at h
 split at h
 ·rename_i a; exact absurd h a
 rename_i a
 split at h
 ·exact absurd h odc
 rename_i b
 split at h
 ·rename_i c; exact absurd h c.2
 rename_i c
 exact ⟨by simpa using a, by simpa using b, c, h⟩
theorem qcE_of {fs : List Fml} {q : QryE} (h1 : Zv fs = 0) (h2 : Yk fs.length q = true) (h3 : ¬ (0 < q.whr.length ∧ (Y5 fs q.whr).2.1 ≠ 0)) : qcE fs q = (ZM q).2.2 := by
 unfold qcE
 rw [if_neg (by simp [h1]), if_neg (by simp [h2]), if_neg h3]
def qTok (q : QryE) : QryE := { XI twoF q with frm := [], to := [], fams := [], pre := [], whr := [], rows := 1 }
theorem readQ_nil {q : QryE} (h : q.token = []) : ZM q = (0, [], 0) := by unfold ZM; rw [if_pos (by rw [h]; rfl)]
theorem qTok_fits (q : QryE) (t : List UInt8) : Yk twoF.length { qTok q with token := t } = true := by
 have h := (Je (Nq JE q)).2.1
 unfold Yk Vk at h
 simp only [Bool.and_eq_true, decide_eq_true_eq] at h
 unfold Yk Vk Qe Uj qTok
 simp
 omega
theorem qTok_qcE (q : QryE) (t : List UInt8) : qcE twoF { qTok q with token := t } = (ZM { qTok q with token := t }).2.2 := qcE_of JE (qTok_fits q t) (by rintro ⟨a, _⟩; simp [qTok] at a)
def atT (q : QryE) : Int := if (qTok q).time ≠ 0 then (qTok q).time else 5
theorem atT_in (q : QryE) : 1 ≤ atT q ∧ atT q ≤ 1099511627776 ∧ ((qTok q).time = 0 ∨ (qTok q).time = atT q) := by
 have h := qTok_fits q []
 unfold Yk Vk at h
 simp only [Bool.and_eq_true, decide_eq_true_eq] at h
 obtain ⟨_, h⟩ := h
 have h1 : 0 ≤ (qTok q).time ∧ (qTok q).time ≤ 1099511627776 := ⟨h.1.1.1.1.1.2, h.1.1.1.1.2⟩
 unfold atT
 split
 ·exact ⟨om, om, .inr rfl⟩
 ·exact ⟨om, om, .inl om⟩
def rowT (q : QryE) : List UInt8 := if (qTok q).rev then [114, 51] else [114, 49]
def tokT (q : QryE) : List UInt8 := tokB (qTok q) (atT q) (rowT q)
theorem rowT_len (q : QryE) : (rowT q).length = 2 := by unfold rowT; split <;> rfl
theorem ask_row {q : QryE} (h1 : q.frm = []) (h2 : q.to = []) (r : List UInt8) : Y1 q r = true := by
 unfold Y1
 rw [h1, h2]
 have := cb_nil r
 simp [this]
def qTrn (q : QryE) (t : List UInt8) : QryE := { qTok q with token := t }
theorem turned {q : QryE} {i : Nat} {c : UInt8} {t : List UInt8} (h : t = (tokT q).set i c) : ((qcE twoF (qTrn q t) == 132) == !(t == tokT q)) = true := by
 have hq := qTok_qcE q t
 by_cases e : t = tokT q
 ·obtain ⟨a1, a2, a3⟩ := atT_in q
  have hr : ZM (qTrn q t) = (atT q, rowT q, 0) := KS (q := qTrn q t) (t := atT q) (row := rowT q) e a1 a2 a3 (by rw [rowT_len]; decide) (by rw [rowT_len]; decide) (ask_row rfl rfl _)
  have : qcE twoF (qTrn q t) = 0 := by unfold qTrn; rw [hq]; show (ZM (qTrn q t)).2.2 = 0; rw [hr]
  rw [this, e]; simp
 ·have hr := readQ_turn (q := qTrn q t) (q0 := qTok q) (t := atT q) (row := rowT q) (i := i) (c := c) h rfl e
  have : qcE twoF (qTrn q t) = 132 := by unfold qTrn; rw [hq]; exact hr
  rw [this, beq_eq_false_iff_ne.2 e]; rfl
end Go.Proofs.YtkmkbndcekklmaaGreatDoor
set_option maxRecDepth 10000
namespace Go.Proofs.YtkmkbndcekklmaaGreatDoor
open Go Go.Sx Go.Rt Go.Proofs Tryz
theorem from_ok {q : QryE} {l : List RowE} (h : Yh l) : Yh (X0 q l) := by
 refine ⟨?_, fun x hx => h.2 x (UH.1 (List.mem_filter.1 hx).1)⟩
 refine Nat.le_trans (List.length_filter_le _ _) ?_
 have : (dirL q l).length = l.length := by unfold dirL; split <;> simp
 rw [this]; exact h.1
def Vb (nf : Nat) (c : CelE) : Bool := decide (0 ≤ c.fam) && decide (c.fam < (nf : Int))
def Mw (nf : Nat) (x : RowE) : RowE := ⟨x.row, x.cells.filter (Vb nf)⟩
def posN (l : List RowE) (r : List UInt8) : Nat := (l.takeWhile fun y => decide (Lib.compareBytes y.row r < 0)).length
def putN (l : List RowE) (r : RowE) : List RowE :=
 if posN l r.row < l.length ∧ (l.getD (posN l r.row) default).row = r.row then l else l.take (posN l r.row) ++ [r] ++ l.drop (posN l r.row)
def VB (nf : Nat) (l : List RowE) (x : RowE) : List RowE := if x.row.length < 1 ∨ 256 < x.row.length then l else putN l (Mw nf x)
def Jy (nf : Nat) (l : List RowE) : List RowE := l.foldl (VB nf) []
def Vj (nf : Nat) (l : List RowE) : List RowE := Jy nf (l.take 40)
theorem putN_len (l : List RowE) (r : RowE) : (putN l r).length ≤ l.length + 1 := by
 unfold putN
 split
 ·omega
 ·simp; omega
theorem stepN_len (nf : Nat) (l : List RowE) (x : RowE) : (VB nf l x).length ≤ l.length + 1 := by
 unfold VB
 split
 ·omega
 ·exact putN_len _ _
theorem foldN_len (nf : Nat) : ∀ (m l : List RowE), (m.foldl (VB nf) l).length ≤ l.length + m.length
 | [], l => osi
 | x :: m, l => by
   rw [List.foldl_cons, List.length_cons]
   have := foldN_len nf m (VB nf l x)
   have := stepN_len nf l x
   omega
theorem neatF_len (nf : Nat) (l : List RowE) : (Jy nf l).length ≤ l.length := by have := foldN_len nf l []; simpa [Jy] using this
theorem neatF_snoc (nf : Nat) {l : List RowE} {i : Nat} (h : i < l.length) : Jy nf (l.take (i + 1)) = VB nf (Jy nf (l.take i)) (l.getD i default) := by
 unfold Jy
 rw [List.take_succ_eq_append_getElem h, List.foldl_append]
 simp [List.getD, h]
theorem posN_is {l : List RowE} {r : List UInt8} {a : Nat} (ha : a ≤ l.length) (h1 : ∀ j, j < a → Lib.compareBytes (l.getD j default).row r < 0) (h2 : a = l.length ∨ ¬ Lib.compareBytes (l.getD a default).row r < 0) : posN l r = a := by
 unfold posN
 induction l generalizing a with
 | nil => simp at ha; simp [ha]
 | cons y l ih =>
   cases a with
   | zero =>
     rcases h2 with h2 | h2
     ·simp at h2
     ·rw [List.takeWhile_cons_of_neg (by simpa using h2)]; rfl
   | succ a =>
     have h0 := h1 0 om
     rw [List.takeWhile_cons_of_pos (by simpa using h0), List.length_cons]
     congr 1
     exact ih (by simpa using ha) (fun j hj => by have := h1 (j + 1) om; simpa using this) (by rcases h2 with h2 | h2; exact .inl (by simpa using h2); exact .inr (by simpa using h2))
theorem fz_cels {k ver : Nat} (l : List CelE) : FzV k ver 4 (l.map Zr) (.osl k ver 0 l.length) (.sl 4 (l.map Zr)) := by
 have h := FzV.osl (k := k) (ver := ver) (e := 4) (els := l.map Zr) (off := 0) (len := l.length) osi
 rwa [List.drop_zero, List.take_of_length_le osi] at h
theorem Mo {k ver : Nat} (l : List RowE) : FzV k ver 2 (l.map Ze) (.osl k ver 0 l.length) (.sl 2 (l.map Ze)) := by
 have h := FzV.osl (k := k) (ver := ver) (e := 2) (els := l.map Ze) (off := 0) (len := l.length) osi
 rwa [List.drop_zero, List.take_of_length_le osi] at h
theorem NT70.eqs {P Q : Prop} (g : Imp P Q := by (try simp only [go_sem, seval, hszs, hags, hmos, hszr, hagr, hmor, hszc, hagc, hmoc, b1, b2, b3, hnth, hntc, hntl, e1, e2, e3, g1, g2, g3, g4, g5, g6, Nat.add_assoc, List.length_map, Int.toNat_natCast, Zq]); exact Pm) : Imp P Q := g
theorem NT70.sd {P : Prop} (g : P := by first | (intros; simp_all; done) | fail) : P := g
set_option maxHeartbeats 6400000 in
open NT70 NZ in
theorem Ku (fs : List Fml) (hfs : fs.length ≤ 1048576) (l : List RowE) (hl : Yh l) (H : Heap) (n : Nat) : Ret prog 16 [Zi fs, .sl 2 (l.map Ze)] H n (.sl 2 ((Vj fs.length l).map Ze)) H n := by
 have hszs : (Zi fs).sz = 1 := rfl
 have hags : (Zi fs).isAgg = true := rfl
 have hmos : (Zi fs).memOK = true := rfl
 have hszr : ∀ r, (Ze r).sz = 2 := Qr
 have hagr : ∀ r, (Ze r).isAgg = true := fun _ => rfl
 have hmor : ∀ r, (Ze r).memOK = true := fun _ => rfl
 have hszc : ∀ r, (Zr r).sz = 4 := XK
 have hagc : ∀ r, (Zr r).isAgg = true := fun _ => rfl
 have hmoc : ∀ r, (Zr r).memOK = true := fun _ => rfl
 have hls := hl.1
 have hlt : ∀ a b : List UInt8, Op.bytesLess a b = decide (Lib.compareBytes a b < 0) := fun a b => (X5 a b).2
 obtain ⟨N, hN⟩ : ∃ N : Nat → List RowE, N = fun i => Jy fs.length (l.take i) := ⟨_, rfl⟩
 have hNl : ∀ i, (N i).length ≤ i := fun i => by rw [hN]; exact Nat.le_trans (neatF_len _ _) (by rw [List.length_take]; omega)
 have b1 := hls
 have b2 := hls
 have b3 := hls
 have hnth := hls
 have hntc := hls
 have hntl := hls
 have e1 := hls
 have e2 := hls
 have e3 := hls
 have g1 := hls
 have g2 := hls
 have g3 := hls
 have g4 := hls
 have g5 := hls
 have g6 := hls
 refine Ret.fin ?_
 refine fw func16 ntmps16 results16 ?_
 refine rg zs [1, 2] ?_
 refine rg zs [1, 2, 5] ?_
 refine Za fun K1 hK1 => ?_
 refine rg zs [1, 2, 5, 6] ?_
 refine Zy ?_
 refine N8 5 (.sl 2 []) (.nilsl 2) ?_
 refine Yp [1, 2, 5, 6] ?_
 refine ns ?_
 refine Zp (fun T' H' n' => ∃ i : Nat, i ≤ l.length ∧ i ≤ 40 ∧ T' = tl [(1, .sl 2 (l.map Ze)), (2, .loc n 0 0 0 []), (5, .sl 2 ((N i).map Ze)), (6, .int .i64 i)] ∧ H' n = some (.arr 0 1 [Zi fs]) ∧ (∀ k, k < n → H' k = H k) ∧ n + 1 ≤ n') (fun T' _ _ => l.length - iv (T' 6)) ?_ ?_
 ·exact ⟨0, Nat.zero_le _, Nat.zero_le _, by rw [hN]; rfl, ohd, fun k hk => oh, om⟩
 rintro T1 H1 n1 ⟨i, hi, hi40, rfl, b1, hlow, hn1⟩
 refine Za fun K2 hK2 => ?_
 refine rg zs [1, 2, 5, 6, 19] ?_
 refine Zb ?_ ?_ <;> intro hb
 ·have hc2 := Wt hb
  have hci : i < l.length := by have := of_decide_eq_true hc2.1; omega
  have hcj : i < 40 := by have := of_decide_eq_true hc2.2; omega
  have hnth : nth (l.map Ze) i = Ze (l.getD i default) := Zx Ze l i hci
  have e1 : IntKind.i64.wrap ((i : Int) + 1) = ((i + 1 : Nat) : Int) := w1 om
  have hxb := hl.2 _ (YH l hci)
  have hNs : N (i + 1) = VB fs.length (N i) (l.getD i default) := by rw [hN]; exact neatF_snoc _ hci
  obtain ⟨x, hx⟩ : ∃ x, x = l.getD i default := ⟨_, rfl⟩
  rw [← hx] at hnth hxb hNs
  clear hx
  have hNi := hNl i
  obtain ⟨L, hL⟩ : ∃ L, L = N i := ⟨_, rfl⟩
  rw [← hL] at hNs hNi ⊢
  have g1 : (n = n1) = False := oz
  have g2 : (n = n1 + 1) = False := oz
  have g3 : (n1 = n1 + 1) = False := osi
  have g4 : (n1 + 1 = n1) = False := osi
  refine ak ?_
  apply hK2
  refine bk fun K3 hK3 => ?_
  refine Zf zs [1, 2, 5, 6, 7] fun K J => ?_
  try simp only [go_sem, seval, hszs, hags, hmos, hszr, hagr, hmor, hszc, hagc, hmoc, b1, b2, b3, hnth, hntc, hntl, e1, e2, e3, g1, g2, g3, g4, g5, g6, Nat.add_assoc, List.length_map, Int.toNat_natCast, Zq, Ze]
  repeat (first | (refine And.intro ?_ ?_; · first | exact ⟨om, om⟩) | refine peel ?_)
  refine Zo func23 rfl rfl rfl ((Y9 x.row hxb.1 _ _)) ?_
  try simp only [go_sem, seval, hszs, hags, hmos, hszr, hagr, hmor, hszc, hagc, hmoc, b1, b2, b3, hnth, hntc, hntl, e1, e2, e3, g1, g2, g3, g4, g5, g6, Nat.add_assoc, List.length_map, Int.toNat_natCast, Zq, Ze]
  repeat refine peel ?_
  apply J; clear J K
  refine Za fun K4 hK4 => ?_
  refine rg zs [1, 2, 5, 6, 7, 8] ?_
  refine Zy ?_
  obtain ⟨p, hp⟩ : ∃ p, p = n1 := ⟨_, rfl⟩
  subst hp
  refine Yq p 4 (ver := 0) (e := 2) (els := [.agg [bys x.row, .nilsl]]) (els' := [.agg [bys x.row, .osl (p + 1) 0 0 0]]) ohd ⟨Adp.agg ⟨.refl _ _, Adp.nilsl _, trivial⟩, trivial⟩ ?_
  refine Zp (fun T' H' n' => ∃ (j ver : Nat), j ≤ x.cells.length ∧ T' = tl [(1, .sl 2 (l.map Ze)), (2, .loc n 0 0 0 []), (5, .sl 2 (L.map Ze)), (6, .int .i64 i), (7, .loc p 0 0 0 []), (8, .int .i64 j)] ∧ H' n = some (.arr 0 1 [Zi fs]) ∧ H' p = some (.arr 0 2 [.agg [bys x.row, .osl (p + 1) ver 0 ((x.cells.take j).filter (Vb fs.length)).length]]) ∧ H' (p + 1) = some (.arr ver 4 (((x.cells.take j).filter (Vb fs.length)).map Zr)) ∧ (∀ k, k < n → H' k = H k) ∧ p + 2 ≤ n') (fun T' _ _ => x.cells.length - iv (T' 8)) ?_ ?_
  ·exact ⟨0, 0, Nat.zero_le _, rfl, ohx b1, ohd, ohd, fun k hk => ohx (hlow k hk), om⟩
  rintro T1 H1 n1 ⟨j, ver, hj, rfl, b1, b2, b3, hlow, hn1⟩
  refine Za fun K5 hK5 => ?_
  refine Zf zs [1, 2, 5, 6, 7, 8, 36] fun K J => ?_
  try simp only [go_sem, seval, hszs, hags, hmos, hszr, hagr, hmor, hszc, hagc, hmoc, b1, b2, b3, hnth, hntc, hntl, e1, e2, e3, g1, g2, g3, g4, g5, g6, Nat.add_assoc, List.length_map, Int.toNat_natCast, Zq, Ze]
  repeat (first | (refine And.intro ?_ ?_; · first | exact ⟨om, om⟩) | refine peel ?_)
  apply J; clear J K
  refine Zb ?_ ?_ <;> intro hb
  ·have hcl : j < x.cells.length := ott
   have hntc : nth (x.cells.map Zr) j = Zr (x.cells.getD j default) := Zx Zr x.cells j hcl
   have e2 : IntKind.i64.wrap ((j : Int) + 1) = ((j + 1 : Nat) : Int) := w1 om
   have hcb := hxb.2.2 _ (YH x.cells hcl)
   have hfl : ((x.cells.take j).filter (Vb fs.length)).length ≤ j := Nat.le_trans (List.length_filter_le _ _) (by rw [List.length_take]; omega)
   have hcs : (x.cells.take (j + 1)).filter (Vb fs.length) = (x.cells.take j).filter (Vb fs.length) ++ (if Vb fs.length (x.cells.getD j default) then [x.cells.getD j default] else []) := by rw [List.take_succ_eq_append_getElem hcl, List.filter_append]; simp [List.getD, hcl, List.filter_cons]
   obtain ⟨c, hc⟩ : ∃ c, c = x.cells.getD j default := ⟨_, rfl⟩
   rw [← hc] at hntc hcb hcs
   clear hc
   have g5 : (p = n1) = False := oz
   have g6 : (p + 1 = n1) = False := oz
   have g7 : (n = n1) = False := oz
   refine ak ?_
   apply hK5
   refine ZQ [1, 2, 5, 6, 7, 8] (fun T' H' n' => ∃ ver, T' = tl [(1, .sl 2 (l.map Ze)), (2, .loc n 0 0 0 []), (5, .sl 2 (L.map Ze)), (6, .int .i64 i), (7, .loc p 0 0 0 []), (8, .int .i64 j)] ∧ H' n = some (.arr 0 1 [Zi fs]) ∧ H' p = some (.arr 0 2 [.agg [bys x.row, .osl (p + 1) ver 0 ((x.cells.take (j + 1)).filter (Vb fs.length)).length]]) ∧ H' (p + 1) = some (.arr ver 4 (((x.cells.take (j + 1)).filter (Vb fs.length)).map Zr)) ∧ (∀ k, k < n → H' k = H k) ∧ p + 2 ≤ n') ?_ ?_
   ·refine Zy ?_
    refine Zf zs [1, 2, 5, 6, 7, 8, 9] fun K J => ?_
    try simp only [go_sem, seval, hszs, hags, hmos, hszr, hagr, hmor, hszc, hagc, hmoc, b1, b2, b3, hnth, hntc, hntl, e1, e2, e3, g1, g2, g3, g4, g5, g6, Nat.add_assoc, List.length_map, Int.toNat_natCast, Zq, Ze]
    repeat (first | (refine And.intro ?_ ?_; · first | exact ⟨om, om⟩) | refine peel ?_)
    apply J; clear J K
    refine Zf zs [1, 2, 5, 6, 7, 8, 9, 57] fun K J => ?_
    try simp only [go_sem, seval, hszs, hags, hmos, hszr, hagr, hmor, hszc, hagc, hmoc, b1, b2, b3, hnth, hntc, hntl, e1, e2, e3, g1, g2, g3, g4, g5, g6, Nat.add_assoc, List.length_map, Int.toNat_natCast, Zq, Zr, Zi, g7]
    repeat (first | (refine And.intro ?_ ?_; · first | (intros; simp_all; done)) | refine peel ?_)
    apply J; clear J K
    refine Zb ?_ ?_ <;> intro hb
    ·have hyes : Vb fs.length c = true := by unfold Vb; have h9 := Wt hb; simpa using h9
     refine QY rfl zs [1, 2, 5, 6, 7, 8] [.q, .q, .q, .q, .q, .q, .c, .q, .q, .q, .q, .c, .q, .q, .w [], .q, .w []] [0, 1, 2, 3, 4, 5, 6, 7, 8, 9, 10, 11, 12, 13, 14, 15, 16] [0, 1, 2, 3, 4, 5, 6, 7, 8, 9, 10, 11, 12, 13, 14, 15, 16] (by kernel_rfl) (fun _ _ _ _ _ h => h) fun K J => ?_
     try simp only [go_sem, seval, hszs, hags, hmos, hszr, hagr, hmor, hszc, hagc, hmoc, b1, b2, b3, hnth, hntc, hntl, e1, e2, e3, g1, g2, g3, g4, g5, g6, Nat.add_assoc, List.length_map, Int.toNat_natCast, Zq, Zr, Ze, g7]
     repeat refine peel ?_
     refine ZY func23 rfl rfl rfl (fun _ n => (Y9 c.qual hcb.1 _ _)) ?_
     try simp only [go_sem, seval, hszs, hags, hmos, hszr, hagr, hmor, hszc, hagc, hmoc, b1, b2, b3, hnth, hntc, hntl, e1, e2, e3, g1, g2, g3, g4, g5, g6, Nat.add_assoc, List.length_map, Int.toNat_natCast, Zq, Zr, Ze, g7]
     repeat refine peel ?_
     refine ZY func23 rfl rfl rfl (fun _ n => (Y9 c.value hcb.2 _ _)) ?_
     try simp only [go_sem, seval, hszs, hags, hmos, hszr, hagr, hmor, hszc, hagc, hmoc, b1, b2, b3, hnth, hntc, hntl, e1, e2, e3, g1, g2, g3, g4, g5, g6, Nat.add_assoc, List.length_map, Int.toNat_natCast, Zq, Zr, Ze, g7]
     repeat (first | (refine And.intro ?_ ?_; · first | exact ⟨rfl, by simp [AV.sz, AV.szs, AV.memOK]⟩ | exact ⟨Nat.le_refl _, .inr trivial, om, om⟩) | refine peel ?_)
     apply J; clear J K
     refine ns ?_
     refine ns ?_
     first
     | (rw [hcs, hyes, if_pos rfl]
        rw [List.take_of_length_le (show (((x.cells.take j).filter (Vb fs.length)).map Zr).length ≤ ((x.cells.take j).filter (Vb fs.length)).length by simp)]
        refine ⟨ver + 1, ?_⟩; (repeat' apply And.intro) <;> first | rfl | (rw [List.length_append]; rfl) | ((try simp only [Pj]); (repeat first | rw [if_pos rfl] | rw [if_pos trivial] | rw [if_neg om]); first | done | exact b1 | exact b2 | exact b3 | (rw [List.map_append]; rfl) | (rw [List.length_append]; rfl)) | (intro k hk; refine ohx ?_; exact hlow k hk) | omega)
    have hno : Vb fs.length c = false := by unfold Vb; have h9 := hb; revert h9; cases decide (0 ≤ c.fam) <;> cases decide (c.fam < (fs.length : Int)) <;> simp_all
    refine ak ?_
    refine ns ?_
    first
    | (rw [hcs, hno]
       simp only [Bool.false_eq_true, if_false, List.append_nil]
       refine ⟨ver, ?_⟩; (repeat' apply And.intro) <;> first | rfl | ((try simp only [Pj]); (repeat first | rw [if_pos rfl] | rw [if_pos trivial] | rw [if_neg om]); first | done | exact b1 | exact b2 | exact b3) | (intro k hk; refine ohx ?_; exact hlow k hk) | omega)
   rintro T3 H3 n3 ⟨ver3, rfl, b1, b2, b3, hlow, hn3⟩
   refine rg1 zs [1, 2, 5, 6, 7, 8] ?_
   refine ⟨⟨j + 1, ver3, ?_⟩, om⟩; (repeat' apply And.intro) <;> first | rfl | omega | exact hlow | exact hn3
  have hcl : j = x.cells.length := otf
  refine ax ?_
  apply hK4
  refine Za fun K6 hK6 => ?_
  subst hcl
  rw [List.take_length] at b2 b3
  refine QX (p + 1) p (ver := ver) (e := 4) (els := (Mw fs.length x).cells.map Zr) (vj := 0) (ej := 2) (lj := [.agg [bys x.row, .osl (p + 1) ver 0 (x.cells.filter (Vb fs.length)).length]]) (lj' := [Ze (Mw fs.length x)]) b3 b2 om ⟨FzV.agg ⟨.refl _, fz_cels _, trivial⟩, trivial⟩ ?_
  obtain ⟨r, hr⟩ : ∃ r, r = Mw fs.length x := ⟨_, rfl⟩
  have hrr : r.row = x.row := by rw [hr]; rfl
  rw [← hr]
  refine ZO (fun H' n' => H' n = some (.arr 0 1 [Zi fs]) ∧ H' p = some (.arr 0 2 [Ze r]) ∧ (∀ k, k < n → H' k = H k) ∧ p + 2 ≤ n') ⟨ohx b1, oh, fun k hk => ohx (hlow k hk), hn1⟩ fun H3 n3 ⟨b1, b2, hlow, hn3⟩ => ?_
  refine Zf zs [1, 2, 5, 6, 7, 83] fun K J => ?_
  try simp only [go_sem, seval, hszs, hags, hmos, hszr, hagr, hmor, hszc, hagc, hmoc, b1, b2, b3, hnth, hntc, hntl, e1, e2, e3, g1, g2, g3, g4, g5, g6, Nat.add_assoc, List.length_map, Int.toNat_natCast, Zq, Ze]
  repeat refine peel ?_
  apply J; clear J K
  refine Zb ?_ ?_ <;> intro hb
  ·have h9 : x.row.length < 1 ∨ 256 < x.row.length := Classical.byContradiction fun h => by rw [hrr, decide_eq_false (show ¬ ((x.row.length : Int) < 1) by omega), decide_eq_false (show ¬ ((256 : Int) < (x.row.length : Int)) by omega)] at hb; exact absurd hb odc
   have hNs1 : N (i + 1) = L := by rw [hNs]; unfold VB; rw [if_pos h9]
   refine ax ?_
   apply hK3
   refine rg1 zs [1, 2, 5, 6] ?_
   refine ⟨⟨i + 1, ?_⟩, om⟩
   (repeat' apply And.intro) <;> first | omega | rfl | (rw [hNs1]; done) | (rw [hNs2]; done) | ((try simp only [Pj]); (repeat first | rw [if_pos rfl] | rw [if_pos trivial] | rw [if_neg om]); first | done | exact b1 | exact hlow) | (intro k hk; refine ohx ?_; exact hlow k hk)
  have h9 : ¬ (x.row.length < 1 ∨ 256 < x.row.length) := fun h => by
    rw [hrr] at hb
    rcases h with h | h
    ·rw [decide_eq_true (show (x.row.length : Int) < 1 by omega)] at hb; exact absurd hb osi
    ·rw [decide_eq_true (show (256 : Int) < (x.row.length : Int) by omega)] at hb; cases h7 : decide ((x.row.length : Int) < 1) <;> rw [h7] at hb <;> exact absurd hb osi
  have hNs1 : N (i + 1) = putN L r := by rw [hNs]; unfold VB; rw [if_neg h9, hr]
  refine ak ?_
  apply hK6
  refine rg zs [1, 2, 5, 6, 7, 10] ?_
  refine ZQ [1, 2, 5, 6, 7, 10] (fun T' H' n' => T' = tl [(1, .sl 2 (l.map Ze)), (2, .loc n 0 0 0 []), (5, .sl 2 (L.map Ze)), (6, .int .i64 i), (7, .loc p 0 0 0 []), (10, .int .i64 (posN L r.row))] ∧ H' = H3 ∧ n' = n3) ?_ ?_
  ·refine Zy ?_
   refine Zp (fun T' H' n' => ∃ a : Nat, a ≤ L.length ∧ (∀ j, j < a → Lib.compareBytes (L.getD j default).row r.row < 0) ∧ T' = tl [(1, .sl 2 (l.map Ze)), (2, .loc n 0 0 0 []), (5, .sl 2 (L.map Ze)), (6, .int .i64 i), (7, .loc p 0 0 0 []), (10, .int .i64 a)] ∧ H' = H3 ∧ n' = n3) (fun T' _ _ => L.length - iv (T' 10)) ?_ ?_
   ·exact ⟨0, Nat.zero_le _, fun j hj => om, rfl, rfl, rfl⟩
   rintro T1 H1 n1 ⟨a, ha, hbe, rfl, rfl, rfl⟩
   refine Za fun K7 hK7 => ?_
   rcases Nat.lt_or_ge a L.length with h14 | h14
   ·have hntl : nth (L.map Ze) a = Ze (L.getD a default) := Zx Ze L a h14
    have hd14 : decide ((a : Int) < (L.length : Int)) = true := decide_eq_true om
    have e3 : IntKind.i64.wrap ((a : Int) + 1) = ((a + 1 : Nat) : Int) := w1 om
    refine YS rfl zs [1, 2, 5, 6, 7, 10, 99] [.m, .m, .q, .q, .m, .m, .m, .q, .q, .q, .q, .q, .q, .q, .q, .q] [0, 1, 2, 3, 4, 5, 6, 7, 8, 9, 10, 11, 12, 13, 14, 15] [0, 1, 2, 3, 4, 5, 6, 7, 8, 9, 10, 11, 12, 13, 14, 15] (by kernel_rfl) (fun _ _ _ _ _ h => h) fun K J => ?_
    try simp only [go_sem, seval, hszs, hags, hmos, hszr, hagr, hmor, hszc, hagc, hmoc, b1, b2, b3, hnth, hntc, hntl, e1, e2, e3, g1, g2, g3, g4, g5, g6, Nat.add_assoc, List.length_map, Int.toNat_natCast, Zq, Ze, hntl, hd14]
    repeat (first | (refine And.intro ?_ ?_; · first | (intro _; exact Yl _) | (intros; simp_all; done)) | refine peel ?_)
    apply J; clear J K
    refine Zb ?_ ?_ <;> intro hb
    ·have hac : Lib.compareBytes (L.getD a default).row r.row < 0 := by have h8 := hb; simp only [hlt] at h8; simpa using h8
     refine ak ?_
     apply hK7
     refine Zy ?_
     refine rg1 zs [1, 2, 5, 6, 7, 10] ?_
     exact ⟨⟨a + 1, om, fun j hj => by rcases Nat.lt_or_ge j a with h7 | h7; exact hbe j h7; (obtain rfl : j = a := om); exact hac, rfl⟩, om⟩
    have hpos : posN L r.row = a := posN_is ha hbe (.inr (by have h8 := hb; simp only [hlt] at h8; simpa using h8))
    refine ax ?_
    refine ns ?_
    rw [hpos]
   ·have hntl : nth (L.map Ze) a = .junk := by simp [nth, List.getD, h14]
    have hd14 : decide ((a : Int) < (L.length : Int)) = false := decide_eq_false om
    have e3 : IntKind.i64.wrap ((a : Int) + 1) = ((a + 1 : Nat) : Int) := w1 om
    refine YS rfl zs [1, 2, 5, 6, 7, 10, 99] [.m, .m, .q, .q, .m, .m, .m, .q, .q, .q, .q, .q, .q, .q, .q, .q] [0, 1, 2, 3, 4, 5, 6, 7, 8, 9, 10, 11, 12, 13, 14, 15] [0, 1, 2, 3, 4, 5, 6, 7, 8, 9, 10, 11, 12, 13, 14, 15] (by kernel_rfl) (fun _ _ _ _ _ h => h) fun K J => ?_
    try simp only [go_sem, seval, hszs, hags, hmos, hszr, hagr, hmor, hszc, hagc, hmoc, b1, b2, b3, hnth, hntc, hntl, e1, e2, e3, g1, g2, g3, g4, g5, g6, Nat.add_assoc, List.length_map, Int.toNat_natCast, Zq, Ze, hntl, hd14]
    repeat (first | (refine And.intro ?_ ?_; · first | (intro _; exact Yl _) | (intros; simp_all; done)) | refine peel ?_)
    apply J; clear J K
    refine Zb ?_ ?_ <;> intro hb
    ·exact absurd hb osi
    have hpos : posN L r.row = a := posN_is ha hbe (.inl om)
    refine ax ?_
    refine ns ?_
    rw [hpos]
  rintro T8 H8 n8 ⟨rfl, rfl, rfl⟩
  obtain ⟨P, hP⟩ : ∃ P, P = posN L r.row := ⟨_, rfl⟩
  have hPl : P ≤ L.length := by rw [hP]; exact (List.takeWhile_sublist _).length_le
  rw [← hP]
  refine ZQ [1, 2, 5, 6, 7, 10] (fun T' H' n' => N (i + 1) = L.take P ++ [r] ++ L.drop P ∧ T' = tl [(1, .sl 2 (l.map Ze)), (2, .loc n 0 0 0 []), (5, .sl 2 (L.map Ze)), (6, .int .i64 i), (7, .loc p 0 0 0 []), (10, .int .i64 P)] ∧ H' = H8 ∧ n' = n8) ?_ ?_
  ·rcases Nat.lt_or_ge P L.length with h16 | h16
   ·have hntl : nth (L.map Ze) P = Ze (L.getD P default) := Zx Ze L P h16
    have hd16 : decide ((P : Int) < (L.length : Int)) = true := decide_eq_true om
    refine YS rfl zs [1, 2, 5, 6, 7, 10, 115] [.m, .m, .q, .q, .m, .m, .m, .q, .q, .q, .q, .q, .c, .q] [0, 1, 2, 3, 4, 5, 6, 7, 8, 9, 10, 11, 12, 13] [0, 1, 2, 3, 4, 5, 6, 7, 8, 9, 10, 11, 12, 13] (by kernel_rfl) (fun _ _ _ _ _ h => h) fun K J => ?_
    try simp only [go_sem, seval, hszs, hags, hmos, hszr, hagr, hmor, hszc, hagc, hmoc, b1, b2, b3, hnth, hntc, hntl, e1, e2, e3, g1, g2, g3, g4, g5, g6, Nat.add_assoc, List.length_map, Int.toNat_natCast, Zq, Ze, hntl, hd16]
    repeat refine peel ?_
    refine ZY func26 rfl rfl rfl (fun _ n => (U9 (L.getD P default).row r.row _ _)) ?_
    try simp only [go_sem, seval, hszs, hags, hmos, hszr, hagr, hmor, hszc, hagc, hmoc, b1, b2, b3, hnth, hntc, hntl, e1, e2, e3, g1, g2, g3, g4, g5, g6, Nat.add_assoc, List.length_map, Int.toNat_natCast, Zq, Ze, hntl, hd16]
    repeat refine peel ?_
    apply J; clear J K
    refine Zb ?_ ?_ <;> intro hb
    ·have hNs2 : N (i + 1) = L := by rw [hNs1]; unfold putN; rw [← hP, if_pos ⟨h16, osb⟩]
     refine ax ?_
     apply hK3
     refine rg1 zs [1, 2, 5, 6] ?_
     refine ⟨⟨i + 1, ?_⟩, om⟩
     (repeat' apply And.intro) <;> first | omega | rfl | (rw [hNs1]; done) | (rw [hNs2]; done) | ((try simp only [Pj]); (repeat first | rw [if_pos rfl] | rw [if_pos trivial] | rw [if_neg om]); first | done | exact b1 | exact hlow) | (intro k hk; refine ohx ?_; exact hlow k hk)
    have hNs2 : N (i + 1) = L.take P ++ [r] ++ L.drop P := by rw [hNs1]; unfold putN; rw [← hP, if_neg (fun h => by have h8 := hb; rw [h.2] at h8; simp at h8)]
    refine ak ?_
    refine ns ?_
    exact hNs2
   ·have hntl : nth (L.map Ze) P = .junk := by simp [nth, List.getD, h16]
    have hd16 : decide ((P : Int) < (L.length : Int)) = false := decide_eq_false om
    refine YS rfl zs [1, 2, 5, 6, 7, 10, 115] [.m, .m, .q, .q, .m, .m, .m, .q, .q, .q, .q, .q, .c, .q] [0, 1, 2, 3, 4, 5, 6, 7, 8, 9, 10, 11, 12, 13] [0, 1, 2, 3, 4, 5, 6, 7, 8, 9, 10, 11, 12, 13] (by kernel_rfl) (fun _ _ _ _ _ h => h) fun K J => ?_
    try simp only [go_sem, seval, hszs, hags, hmos, hszr, hagr, hmor, hszc, hagc, hmoc, b1, b2, b3, hnth, hntc, hntl, e1, e2, e3, g1, g2, g3, g4, g5, g6, Nat.add_assoc, List.length_map, Int.toNat_natCast, Zq, Ze, hntl, hd16]
    repeat refine peel ?_
    refine ZY (r := .bool false) func26 rfl rfl rfl (fun hg => absurd hg osi) ?_
    try simp only [go_sem, seval, hszs, hags, hmos, hszr, hagr, hmor, hszc, hagc, hmoc, b1, b2, b3, hnth, hntc, hntl, e1, e2, e3, g1, g2, g3, g4, g5, g6, Nat.add_assoc, List.length_map, Int.toNat_natCast, Zq, Ze, hntl, hd16]
    repeat refine peel ?_
    apply J; clear J K
    refine Zb ?_ ?_ <;> intro hb
    ·exact absurd hb osi
    have hNs2 : N (i + 1) = L.take P ++ [r] ++ L.drop P := by rw [hNs1]; unfold putN; rw [← hP, if_neg (fun h => om)]
    refine ak ?_
    refine ns ?_
    exact hNs2
  rintro T8 H8 n8 ⟨hNs2, rfl, rfl, rfl⟩
  refine rg zs [1, 2, 5, 6, 7, 10, 11] ?_
  have g5 : (p = n8) = False := oz
  have hst : strip true (Ze r) = Ze r := rfl
  have e2 : min P L.length = P := Nat.min_eq_left hPl
  refine Z8 11 2 rfl ?_
  refine ns ?_
  refine Zf zs [1, 2, 5, 6, 7, 10, 11] fun K J => ?_
  try simp only [go_sem, seval, hszs, hags, hmos, hszr, hagr, hmor, hszc, hagc, hmoc, b1, b2, b3, hnth, hntc, hntl, e1, e2, e3, g1, g2, g3, g4, g5, g6, Nat.add_assoc, List.length_map, Int.toNat_natCast, Zq, Option.getD_some, Option.getD_none, Int.toNat_zero, List.drop_zero, ← List.map_take, ← List.map_drop, List.length_take, List.length_drop]
  repeat (first | (refine And.intro ?_ ?_; · first | exact ⟨.inr trivial, om, om⟩) | refine peel ?_)
  apply J; clear J K
  refine Zf zs [1, 2, 5, 6, 10, 11] fun K J => ?_
  try simp only [go_sem, seval, hszs, hags, hmos, hszr, hagr, hmor, hszc, hagc, hmoc, b1, b2, b3, hnth, hntc, hntl, e1, e2, e3, g1, g2, g3, g4, g5, g6, Nat.add_assoc, List.length_map, Int.toNat_natCast, Zq, hst, List.take_take, Option.getD_some, Option.getD_none, Int.toNat_zero, List.drop_zero, ← List.map_take, ← List.map_drop, List.length_take, List.length_drop]
  repeat (first | (refine And.intro ?_ ?_; · first | exact ⟨Nat.le_refl _, .inr trivial, om, om⟩ | exact ⟨rfl, fun x hx => by rw [List.mem_singleton.1 hx]; exact ⟨hszr r, hmor r⟩⟩) | refine peel ?_)
  apply J; clear J K
  refine ZG zs [1, 2, 5, 6] fun K J => ?_
  try simp only [go_sem, seval, hszs, hags, hmos, hszr, hagr, hmor, hszc, hagc, hmoc, b1, b2, b3, hnth, hntc, hntl, e1, e2, e3, g1, g2, g3, g4, g5, g6, Nat.add_assoc, List.length_map, Int.toNat_natCast, Zq, hst, List.take_take, Option.getD_some, Option.getD_none, Int.toNat_zero, List.drop_zero, ← List.map_take, ← List.map_drop, List.length_take, List.length_drop]
  repeat (first | (refine And.intro ?_ ?_; · first | exact ⟨by (simp only [List.length_append, List.length_map, List.length_take, List.length_cons, List.length_nil]; omega), .inr trivial, om, om⟩) | refine peel ?_)
  apply J; clear J K
  refine ns ?_
  apply hK3
  first
  | (have hE : List.take (P + 1) (List.map Ze (List.take (min P P) L) ++ [Ze r]) ++ List.map Ze (List.drop P (List.take L.length L)) = (N (i + 1)).map Ze := by rw [hNs2, Nat.min_self, List.take_length, List.take_of_length_le (by simp only [List.length_append, List.length_map, List.length_take, List.length_cons, List.length_nil]; omega), List.map_append, List.map_append]; rfl
     have hLn : P + (1 + (min L.length L.length - P)) = (N (i + 1)).length := by rw [hNs2]; simp only [List.length_append, List.length_take, List.length_drop, List.length_cons, List.length_nil]; omega
     rw [hE, hLn]
     refine QW 5 n8 (Pk _ _ _) (Mo (N (i + 1))) ?_
     refine Yp [1, 2, 5, 6] ?_
     refine ns ?_)
  refine rg1 zs [1, 2, 5, 6] ?_
  refine ⟨⟨i + 1, ?_⟩, om⟩
  (repeat' apply And.intro) <;> first | omega | rfl | (rw [hNs1]; done) | (rw [hNs2]; done) | ((try simp only [Pj]); (repeat first | rw [if_pos rfl] | rw [if_pos trivial] | rw [if_neg om]); first | done | exact b1 | exact hlow) | (intro k hk; refine ohx ?_; exact hlow k hk)
 have hci : N i = Vj fs.length l := by
   rw [hN]
   unfold Vj
   have h9 : i = l.length ∨ i = 40 := by
     rcases Nat.lt_or_ge i l.length with h7 | h7
     ·rcases Nat.lt_or_ge i 40 with h8 | h8
      ·rw [decide_eq_true (show (i : Int) < (l.length : Int) by omega), decide_eq_true (show (i : Int) < 40 by omega)] at hb; exact absurd hb odc
      ·exact .inr om
     ·exact .inl om
   show Jy _ (l.take i) = Jy _ (l.take 40)
   rcases h9 with h9 | h9
   ·rw [List.take_of_length_le om, List.take_of_length_le om]
   ·rw [h9]
 refine ax ?_
 apply hK1
 refine rg zs [4] ?_
 refine ar ?_
 rw [hci]
 exact ⟨_, rfl, hlow, .kl (XQ Ze (fun r => kl_row r _) _)⟩
end Go.Proofs.YtkmkbndcekklmaaGreatDoor
set_option maxRecDepth 10000
namespace Go.Proofs.YtkmkbndcekklmaaGreatDoor
open Go Go.Sx Go.Rt Go.Proofs
theorem pos_split (l : List RowE) (r : List UInt8) : ∃ W D, l = W ++ D ∧ l.take (posN l r) = W ∧ l.drop (posN l r) = D ∧ posN l r = W.length ∧ (∀ y ∈ W, Lib.compareBytes y.row r < 0) ∧ (∀ d ds, D = d :: ds → ¬ Lib.compareBytes d.row r < 0) := by
 obtain ⟨W, hW⟩ : ∃ W, W = l.takeWhile fun y => decide (Lib.compareBytes y.row r < 0) := ⟨_, rfl⟩
 obtain ⟨D, hD⟩ : ∃ D, D = l.dropWhile fun y => decide (Lib.compareBytes y.row r < 0) := ⟨_, rfl⟩
 have e : l = W ++ D := by rw [hW, hD, List.takeWhile_append_dropWhile]
 have hp : posN l r = W.length := by rw [hW]; rfl
 refine ⟨W, D, e, by rw [hp]; conv => lhs; rw [e]
                     exact List.take_left, by rw [hp]; conv => lhs; rw [e]
                                              exact List.drop_left, hp, fun y hy => ?_, fun d ds hd => ?_⟩
 ·rw [hW] at hy
  have : ∀ (l : List RowE), y ∈ l.takeWhile (fun y => decide (Lib.compareBytes y.row r < 0)) → Lib.compareBytes y.row r < 0 := fun l => by
    induction l with
    | nil => intro h; simp at h
    | cons a l ih =>
      intro h
      rw [List.takeWhile_cons] at h
      split at h
      ·rename_i ha
       rcases List.mem_cons.1 h with rfl | h
       ·simpa using ha
       ·exact ih h
      ·simp at h
  exact this l hy
 ·rw [hd] at hD
  have : ∀ (l : List RowE), d :: ds = l.dropWhile (fun y => decide (Lib.compareBytes y.row r < 0)) → ¬ Lib.compareBytes d.row r < 0 := fun l => by
    induction l with
    | nil => intro h; simp at h
    | cons a l ih =>
      intro h
      rw [List.dropWhile_cons] at h
      split at h
      ·exact ih h
      ·rename_i ha
       cases h
       simpa using ha
  exact this l hD
theorem putN_up {l : List RowE} {r : RowE} (h : upL l) : upL (putN l r) := by
 obtain ⟨W, D, e, e1, e2, e3, hW, hD⟩ := pos_split l r.row
 unfold putN
 split
 ·exact h
 rename_i hn
 rw [e1, e2]
 unfold upL at h ⊢
 rw [e, List.pairwise_append] at h
 obtain ⟨h1, h2, h3⟩ := h
 have hr : ∀ d ∈ D, Lib.compareBytes r.row d.row < 0 := by
   cases D with
   | nil => intro d hd; cases hd
   | cons d ds =>
     have hd := hD d ds rfl
     have hne : d.row ≠ r.row := fun e9 => hn ⟨by rw [e3, e]; simp, by rw [e3, e]; simp [List.getD, e9]⟩
     have h0 : Lib.compareBytes r.row d.row < 0 := by
       have a1 := U4 d.row r.row
       have a2 := Jn r.row d.row
       have : Lib.compareBytes d.row r.row ≠ 0 := fun h => hne (a1.1 h)
       exact a2.2 om
     intro y hy
     rcases List.mem_cons.1 hy with rfl | hy
     ·exact h0
     ·exact QH h0 (by have := (List.pairwise_cons.1 h2).1 y hy; omega)
 rw [List.append_assoc, List.pairwise_append]
 refine ⟨h1, List.pairwise_cons.2 ⟨hr, h2⟩, fun a ha b hb => ?_⟩
 rcases List.mem_cons.1 hb with rfl | hb
 ·exact hW a ha
 ·exact h3 a ha b hb
theorem mem_putN {l : List RowE} {r y : RowE} (h : y ∈ putN l r) : y = r ∨ y ∈ l := by
 unfold putN at h
 split at h
 ·exact .inr h
 ·rw [List.append_assoc, List.mem_append, List.singleton_append, List.mem_cons] at h
  rcases h with h | h | h
  ·exact .inr (List.mem_of_mem_take h)
  ·exact .inl h
  ·exact .inr (List.mem_of_mem_drop h)
theorem trim_good {nf : Nat} {x : RowE} (h : ¬ (x.row.length < 1 ∨ 256 < x.row.length)) : Vn nf (Mw nf x) := by
 refine ⟨by show x.row.length ≠ 0; omega, by show x.row.length ≤ 256; omega, ?_⟩
 unfold WV Mw
 rw [List.any_eq_false]
 intro c hc
 have := (List.mem_filter.1 hc).2
 unfold Vb at this
 simp only [Bool.and_eq_true, decide_eq_true_eq] at this
 unfold bout
 simp
 omega
theorem Jl (nf : Nat) (P : RowE → Prop) : ∀ (m l : List RowE), upL l → (∀ x ∈ l, Vn nf x ∧ P x) → (∀ x ∈ m, P (Mw nf x)) → upL (m.foldl (VB nf) l) ∧ ∀ x ∈ m.foldl (VB nf) l, Vn nf x ∧ P x
 | [], l, h1, h2, _ => ⟨h1, h2⟩
 | x :: m, l, h1, h2, h3 => by
   rw [List.foldl_cons]
   refine Jl nf P m _ ?_ ?_ fun y hy => h3 y (by simp [hy])
   ·unfold VB; split
    ·exact h1
    ·exact putN_up h1
   ·unfold VB; split
    ·exact h2
    ·rename_i hx
     intro y hy
     rcases mem_putN hy with rfl | hy
     ·exact ⟨trim_good hx, h3 x osi⟩
     ·exact h2 y hy
theorem neatE_up (nf : Nat) (l : List RowE) : upL (Vj nf l) := (Jl nf (fun _ => True) _ [] List.Pairwise.nil (fun x hx => by cases hx) fun _ _ => trivial).1
theorem neatE_good (nf : Nat) (l : List RowE) : ∀ x ∈ Vj nf l, Vn nf x := fun x hx => ((Jl nf (fun _ => True) _ [] List.Pairwise.nil (fun x hx => by cases hx) fun _ _ => trivial).2 x hx).1
theorem neatE_len (nf : Nat) (l : List RowE) : (Vj nf l).length ≤ 40 := Nat.le_trans (neatF_len _ _) (by rw [List.length_take]; omega)
theorem neatE_ok {nf : Nat} {l : List RowE} (h : Yh l) : Yh (Vj nf l) := by
 refine ⟨by have := neatE_len nf l; omega, fun x hx => ?_⟩
 have := ((Jl nf (fun x => x.row.length ≤ 1099511627776 ∧ x.cells.length ≤ 1048576 ∧ ∀ c ∈ x.cells, c.qual.length ≤ 1099511627776 ∧ c.value.length ≤ 1099511627776) (l.take 40) [] List.Pairwise.nil (fun x hx => by cases hx) fun x hx => by
   obtain ⟨a, b, c⟩ := h.2 x (List.mem_of_mem_take hx)
   exact ⟨a, Nat.le_trans (List.length_filter_le _ _) b, fun d hd => c d (List.mem_filter.1 hd).1⟩).2 x hx).2
 exact this
end Go.Proofs.YtkmkbndcekklmaaGreatDoor