/- Own layer: walks through the document's token and its check of a question. Of the program; no condition. -/
import Derived.Test.YtkmkbndcekklmaaGreatDoorPJ
import Derived.Test.YtkmkbndcekklmaaGreatDoorPF
set_option linter.unusedSimpArgs false
set_option linter.unusedVariables false
set_option maxRecDepth 10000
namespace Go.Proofs.YtkmkbndcekklmaaGreatDoor
open Go Go.Sx Go.Rt Go.Proofs Tryz
theorem NHl0.eqs {P Q : Prop} (g : Imp P Q := by (try simp only [go_sem, seval, hsz, hag, hmo, f1, f2, f3, f4, g1, r1, r2, Z8, ZT, List.length_map]); exact M5) : Imp P Q := g
theorem NHl0.sd {P : Prop} (g : P := by first | exact ⟨Nat.le_refl _, Nat.le_refl _, .inr trivial, om, om⟩ | exact ⟨rfl, by (simp [AV.sz, AV.memOK]; first | done | fail)⟩ | fail) : P := g
open NHl0 NZ in
theorem c_ref13_token (q : QryE) (hq : q.fine) (time : Int) (row : List UInt8) (hr : row.length ≤ 256) (H : Heap) (n : Nat) : Ret prog 91 [Ze q, .int .i64 time, bys row] H n (bys (tokB q time row)) H n := by
 have hsz : (Ze q).sz = 10 := ZP q
 have hag : (Ze q).isAgg = true := rfl
 have hmo : (Ze q).memOK = true := rfl
 have r1 := hsz
 have r2 := hsz
 have g1 := hsz
 have hy := Zm (v := row.length) om
 have hz : (Zl row).length = (Zg row.length).length + row.length := by simp [Zl]
 have hy2 := Zm (Z7 time)
 have hy3 := Zm (Z7 (sumF [XM q]))
 have f1 : (n = n + 1) = False := osi
 have f2 : (n + 1 = n) = False := osi
 have f3 : (n + 1 = n + 2) = False := osi
 have f4 : (n = n + 2) = False := osi
 refine Ret.fin ?_
 refine fw func91 ntmps91 results91 ?_
 refine rg zs [1, 2, 3] ?_
 refine rc zs [2, 3, 7] func125 ((Xh (u64 time) (Z7 _) _ _)) ?_
 refine rk zs [3, 7] fun K V => ?_
 refine ck func126 ((XX row om _ _)) ?_
 refine kas ?_
 refine ZB (fun H' n' => H' n = some (.arr 0 10 [Ze q]) ∧ H' (n + 1) = some (.arr ((Zg (u64 time)).length + 1) 1 ((Zg (u64 time) ++ Zl row).map Zd)) ∧ (∀ k, k < n → H' k = H k) ∧ n + 3 ≤ n') ⟨by (try simp only [M4]); simp, by rw [M3, List.map_append], fun k hk => oh, om⟩ fun H1 m ⟨r1, r2, hl1, hm⟩ => ?_
 refine kbS ?_
 have g1 : (n + 1 = m) = False := oz
 have hbl : (Zg (u64 time) ++ Zl row).length ≤ 300 := by rw [List.length_append]; omega
 have e9 : List.take (Zg (u64 time) ++ Zl row).length (List.map Zd (Zg (u64 time) ++ Zl row)) = List.map Zd (Zg (u64 time) ++ Zl row) := Z8 _
 refine rk zs [7, 8] fun K V => ?_
 refine ck func128 ((c_ref13_form q hq.frm hq.to hq.fams hq.pre hq.whr _ _)) ?_
 refine ck func127 ((MF [XM q] osi (fun x hx => by rw [List.mem_singleton.1 hx]; have := formB_len hq; omega) _ _)) ?_
 refine kas ?_
 refine Zf zs [7] fun K V => ?_
 try simp only [go_sem, seval, hsz, hag, hmo, f1, f2, f3, f4, g1, r1, r2, Z8, ZT, List.length_map, e9]
 repeat refine peel ?_
 refine Zo func125 rfl rfl rfl ((Xh (u64 (sumF [XM q])) (Z7 _) _ _)) ?_
 try simp only [go_sem, seval, hsz, hag, hmo, f1, f2, f3, f4, g1, r1, r2, Z8, ZT, List.length_map, e9]
 repeat (first | (refine And.intro ?_ ?_; · first | exact ⟨Nat.le_refl _, Nat.le_refl _, .inr trivial, om, om⟩) | refine peel ?_)
 refine kas ?_
 refine rk zs [9] fun K V => ?_
 rw [← List.length_append, ← List.map_append]
 refine Zo func129 rfl rfl rfl (Ret.frzK (args := [.osl (n + 1) ((Zg (u64 time)).length + 2) 0 (Zg (u64 time) ++ Zl row ++ Zg (u64 (sumF [XM q]))).length]) (args' := [bys (Zg (u64 time) ++ Zl row ++ Zg (u64 (sumF [XM q])))]) (n + 1) (M3 _ _ _) ⟨fz_bys _, trivial⟩ (c_ref1_Frame (Zg (u64 time) ++ Zl row ++ Zg (u64 (sumF [XM q]))) (by rw [List.length_append]; omega) _ _)) ?_
 refine nz ?_
 refine kas ?_
 refine rg zs [6] ?_
 refine ar ?_
 exact ⟨_, rfl, fun k hk => ohx (hl1 k hk), .kl (ZJ (tokB q time row) _)⟩
theorem head_num {n : Nat} (h : n < 4294967296) : numB 0 (YU n) = n := by
 have hb : ∀ x : Nat, (ZY (x : Int)).toNat = x % 256 := fun x => by rw [Kv]; simp
 show 256 * (256 * (256 * (256 * 0 + (ZY ((n : Int) / 16777216)).toNat) + (ZY ((n : Int) / 65536)).toNat) + (ZY ((n : Int) / 256)).toNat) + (ZY (n : Int)).toNat = n
 rw [show (n : Int) / 16777216 = ((n / 16777216 : Nat) : Int) by omega, show (n : Int) / 65536 = ((n / 65536 : Nat) : Int) by omega, show (n : Int) / 256 = ((n / 256 : Nat) : Int) by omega, hb, hb, hb, hb]
 omega
theorem frame_end {b : List UInt8} (hb : b.length ≤ 1048576) (h : (rfQ (Ww b)).2.2 = 0) : (rfQ (Ww b)).2.1 = ((Ww b).length : Int) := by
 have hl : (Ww b).length = 12 + b.length := by unfold Ww; simp only [List.length_append]; show 4 + 4 + b.length + 4 = _; omega
 have hN : hd4 (Ww b) = b.length := by
   rw [hd4_num om, List.drop_zero]
   have : (Ww b).take 4 = YU b.length := by unfold Ww; rw [List.append_assoc, List.append_assoc]; rfl
   rw [this, head_num om]
 unfold rfQ at h ⊢
 rw [hN] at h ⊢
 unfold rfN at h ⊢
 split at h
 ·exact absurd h odc
 split at h
 ·exact absurd h odc
 split at h
 ·exact absurd h odc
 split at h
 ·exact absurd h odc
 split at h
 ·exact absurd h odc
 rename_i h1 h2 h3 h4 h5
 rw [if_neg h1, if_neg h2, if_neg h3, if_neg h4, if_neg h5, hl]
 simp only; omega
def Kc (q : QryE) : AV := .agg [.bool (decide (q.token.length ≠ 0 ∧ (ZV q).2.2 = 0)), .int .i64 (ZV q).1, bys (ZV q).2.1]
theorem NHl1.eqs {P Q : Prop} (g : Imp P Q := by (try simp only [go_sem, seval, hsz, hag, hmo, f1, f2, ruAV, rbAV, Ze, ZC, bys, List.length_map, ZT, hx]); exact M5) : Imp P Q := g
set_option maxHeartbeats 3200000 in
open NHl1 NY in
theorem X5 (q : QryE) (hq : q.fine) (ht : -9223372036854775808 ≤ q.time ∧ q.time < 9223372036854775808) (H : Heap) (n : Nat) : Ret prog 60 [Ze q] H n (.tup [Kc q, .int .i64 (ZV q).2.2]) H n := by
 have hsz : (Ze q).sz = 10 := ZP q
 have hag : (Ze q).isAgg = true := rfl
 have hmo : (Ze q).memOK = true := rfl
 have hTu : ∀ v : Nat, v ≤ 1099511627776 → (v ≠ u64 q.time ↔ (v : Int) ≠ q.time) := fun v hv => by
   unfold u64
   constructor
   ·intro h e; exact h (by rw [← e]; omega)
   ·intro h e; exact h om
 unfold Kc
 obtain ⟨z, hz⟩ : ∃ z, z = ZV q := ⟨_, rfl⟩
 rw [← hz]
 unfold ZV at hz
 have hfl := rfQ_len q.token
 have htl := hq.token
 have hend : ∀ u row, (rfQ q.token).2.2 = 0 → row.length ≤ 256 → (tokB q u row == q.token) = true → (rfQ q.token).2.1 = (q.token.length : Int) := fun u row h0 hr he => by
   have e : tokB q u row = q.token := by simpa using he
   have h1 := Zm (Z7 u)
   have h2 := Zm (v := row.length) om
   have h3 := Zm (Z7 (sumF [XM q]))
   rw [← e] at h0 ⊢
   exact frame_end (by simp only [List.length_append, Zl]; omega) h0
 obtain ⟨fr, hfr⟩ : ∃ f, f = rfQ q.token := ⟨_, rfl⟩
 rw [← hfr] at hz hfl hend
 obtain ⟨hu1, hu2, hu3⟩ := ruB_lt fr.1 0
 obtain ⟨u, hu⟩ : ∃ u, u = ruB fr.1 0 := ⟨_, rfl⟩
 rw [← hu] at hz hu1 hu2 hu3
 have hbm := LG fr.1 u.2.1 256
 obtain ⟨rb, hrb⟩ : ∃ b, b = rbB fr.1 u.2.1 256 := ⟨_, rfl⟩
 rw [← hrb] at hz hbm
 have hx := hsz
 have hxT : u.1 ≤ 1099511627776 → IntKind.i64.wrap (u.1 : Int) = (u.1 : Int) := fun h => w64 om om
 have f1 : (n = n + 1) = False := osi
 have f2 : (n + 1 = n) = False := osi
 refine Ret.fin ?_
 refine fw func60 ntmps60 results60 ?_
 refine rg zs [1, 2] ?_
 refine Za fun K1 hK1 => ?_
 refine rg zs [1, 2, 14] ?_
 refine Zb ?_ ?_ <;> intro hb
 ·have h0 : q.token.length = 0 := by have h9 := hb; simp at h9; simp [h9]
  rw [if_pos h0] at hz
  have hzz : z = (0, [], 0) := hz
  exact kaE
 have h0 : ¬ q.token.length = 0 := by have h9 := hb; simp at h9; simp [h9]
 rw [if_neg h0] at hz
 refine kay ?_
 refine rk zs [1, 2, 4, 5, 6] fun K V => ?_
 refine ck func97 ((hfr ▸ Ko q.token om _ _)) ?_
 refine kas ?_
 refine Za fun K2 hK2 => ?_
 refine rg zs [1, 2, 4, 31] ?_
 refine Zb ?_ ?_ <;> intro hb
 ·have hc1 : fr.2.2 ≠ 0 ∨ fr.2.1 ≠ (q.token.length : Int) := by by_cases h : fr.2.2 = 0; (right; rw [h] at hb; simpa using hb); exact .inl h
  have hzz : z = (0, [], 132) := by
    rw [hz]
    split; rfl; split; rfl; split; rfl
    rename_i a1 a2 a3
    exfalso
    have a1 : fr.2.2 = 0 := by simpa using a1
    refine hc1.elim (fun h => h a1) (fun h => h (hend (u.1 : Int) rb.1 a1 (by simpa using hbm) ?_))
    cases e : (tokB q (u.1 : Int) rb.1 == q.token) with
    | true => rfl
    | false => exact absurd (.inr (.inr (.inr e))) a3
  exact kaE
 have hc1 : fr.2.2 = 0 := by by_cases h : fr.2.2 = 0; exact h; (rw [show (fr.2.2 != 0) = true by simpa using h] at hb; cases hb)
 rw [if_neg (by simp [hc1])] at hz
 refine kaQ ?_
 refine rk zs [1, 2, 4, 6, 7, 8] fun K V => ?_
 refine ck func98 ((hu ▸ UT fr.1 0 om om _ _)) ?_
 refine kas ?_
 refine Za fun K3 hK3 => ?_
 refine rg zs [1, 2, 4, 7, 8, 60] ?_
 refine Zb ?_ ?_ <;> intro hb
 ·have hc : u.2.2 ≠ 0 ∨ u.1 < 1 ∨ 1099511627776 < u.1 ∨ (q.time ≠ 0 ∧ u.1 ≠ u64 q.time) := by
    by_cases c1 : u.2.2 = 0 <;> by_cases c2 : u.1 < 1 <;> by_cases c3 : 1099511627776 < u.1
    all_goals first | exact .inl c1 | exact .inr (.inl c2) | exact .inr (.inr (.inl c3)) | skip
    have := hxT om
    have c5 := hTu u.1 om
    simp [c1, this] at hb
    exact .inr (.inr (.inr ⟨om, c5.2 om⟩))
  have hzz : z = (0, [], 132) := by rw [hz, if_pos hc]
  refine rg zs [2, 3] ?_
  refine ar ?_
  rw [hzz]
  exact ⟨_, rfl, fun k hk => oh, .tup (.cons (.agg (.cons (XA (by simp [h0])) (.cons (.kl trivial) (.cons .nilsl .nil)))) (.cons (.kl trivial) .nil))⟩
 have hc : ¬ (u.2.2 ≠ 0 ∨ u.1 < 1 ∨ 1099511627776 < u.1 ∨ (q.time ≠ 0 ∧ u.1 ≠ u64 q.time)) := by
   rintro (c1 | c1 | c1 | ⟨c1, c2⟩)
   ·rw [show (u.2.2 != 0) = true by simpa using c1] at hb; simp at hb
   ·simp [show decide ((u.1 : Int) < 1) = true from decide_eq_true om] at hb
   ·exact kcO
   ·by_cases c3 : u.1 ≤ 1099511627776
    ·have c5 := (hTu u.1 c3).1 c2; simp [hxT c3, c1, c5] at hb
    ·exact kcO
 rw [if_neg hc] at hz
 have hx : IntKind.i64.wrap (u.1 : Int) = (u.1 : Int) := hxT om
 refine kba ?_
 refine rk zs [1, 2, 6, 7, 9] fun K V => ?_
 refine ck func99 ((hrb ▸ Kq fr.1 u.2.1 256 om om om _ _)) ?_
 refine kas ?_
 refine Za fun K4 hK4 => ?_
 refine dx zs [2, 7, 9, 92] [.m, .q, .m, .m, .q, .q, .q, .m, .q, .m, .c, .q, .q, .m, .q, .m, .q, .m, .c, .q, .q, .c, .q, .q] [0, 1, 2, 3, 4, 5, 6, 7, 8, 9, 10, 11, 12, 13, 14, 15, 16, 17, 18, 19, 20, 21, 22, 23] [0, 1, 2, 3, 4, 5, 6, 7, 8, 9, 10, 11, 12, 13, 14, 15, 16, 17, 18, 19, 20, 21, 22, 23] fun K V => ?_
 refine cq func89 (fun _ n => (MG q rb.1 _ _)) ?_
 refine cq func91 (fun _ n => (c_ref13_token q hq u.1 rb.1 hbm _ _)) ?_
 refine cq func46 (fun _ n => (VS (tokB q u.1 rb.1) q.token _ _)) ?_
 refine kas ?_
 refine Zb ?_ ?_ <;> intro hb
 ·have hc2 : rb.2.2 ≠ 0 ∨ rb.1.length = 0 ∨ Un q rb.1 = false ∨ (tokB q u.1 rb.1 == q.token) = false := by grind
  have hzz : z = (0, [], 132) := by rw [hz, if_pos hc2]
  exact kaE
 have hc2 : ¬ (rb.2.2 ≠ 0 ∨ rb.1.length = 0 ∨ Un q rb.1 = false ∨ (tokB q u.1 rb.1 == q.token) = false) := by grind
 have hzz : z = (((u.1 : Nat) : Int), rb.1, 0) := by rw [hz, if_neg hc2]
 refine kb3 ?_
 refine rg zs [2, 3] ?_
 refine ar ?_
 rw [hzz]
 exact ⟨_, rfl, fun k hk => oh, .tup (.cons (.agg (.cons (XA (by simp [h0])) (.cons (.kl trivial) (.cons (.kl (WQ _ _)) .nil)))) (.cons (.kl trivial) .nil))⟩
theorem fits_time {nf : Nat} {q : QryE} (h : Xj nf q = true) : 0 ≤ q.time ∧ q.time ≤ 1099511627776 := by
 unfold Xj Mj at h
 simp only [Bool.and_eq_true, decide_eq_true_eq] at h
 exact ⟨h.2.1.1.1.1.1.2, h.2.1.1.1.1.2⟩
theorem where_rel {fs : List Fml} (h : ZA fs = 0) (t : List UInt8) : ((0 ≤ (U8 fs t).2) ↔ (Xe fs t).2.1 ≠ 0) ∧ (0 ≤ (U8 fs t).2 → (Xe fs t).2.1 = 131) := by
 have hr := readR_rel fs t
 unfold Xe
 rw [if_neg (by simp [h])]
 cases hp : Wn fs t with
 | ok x => rw [hp] at hr; rw [hr.1]; simp
 | error p => rw [hp] at hr; have hr : (U8 fs t).2 = p := hr; rw [hr]; simp
theorem NHl2.eqs {P Q : Prop} (g : Imp P Q := by (try simp only [go_sem, seval, hsz, hag, hmo, hszs, hags, hmos, f1, f2, hA, hB, Zi, Ze, ZC, bys, List.length_map, XZ, X0, Xk, YX]); exact M5) : Imp P Q := g
set_option maxHeartbeats 1600000 in
open NHl2 NY in
theorem c_ref13_Check (fs : List Fml) (hfs : fs.length ≤ 1048576) (q : QryE) (hq : q.fine) (H : Heap) (n : Nat) : Ret prog 38 [Zi fs, Ze q] H n (.int .i64 (qcE fs q)) H n := by
 have hsz : (Ze q).sz = 10 := ZP q
 have hag : (Ze q).isAgg = true := rfl
 have hmo : (Ze q).memOK = true := rfl
 have hszs : (Zi fs).sz = 1 := rfl
 have hags : (Zi fs).isAgg = true := rfl
 have hmos : (Zi fs).memOK = true := rfl
 have hms : (Kc q).sz = 3 := rfl
 obtain ⟨z, hz⟩ : ∃ z, z = qcE fs q := ⟨_, rfl⟩
 rw [← hz]
 unfold qcE at hz
 have f1 : (n = n + 1) = False := osi
 have f2 : (n + 1 = n) = False := osi
 have hA := hsz
 have hB := hsz
 refine Ret.fin ?_
 refine fw func38 ntmps38 results38 ?_
 refine rg zs [2, 3] ?_
 refine rc zs [2, 3, 5] func69 ((Je fs _ _)) ?_
 refine Yd [2, 3, 5] (fun T' H' n' => ∃ e : Int, e = (if ZA fs ≠ 0 then ZA fs else if Xj fs.length q then 0 else 130) ∧ T' = tl [(2, .loc n 0 0 0 []), (3, .loc (n + 1) 0 0 0 []), (5, .int .i64 e)] ∧ H' n = some (.arr 0 1 [Zi fs]) ∧ H' (n + 1) = some (.arr 0 10 [Ze q]) ∧ (∀ k, k < n → H' k = H k) ∧ n' = n + 2) ?_ ?_
 ·refine rg zs [2, 3, 5, 11] ?_
  refine Zb ?_ ?_ <;> intro hb
  ·have hs0 : ZA fs = 0 := osb
   have he0 : ∀ a b : Int, (if ZA fs ≠ 0 then a else b) = b := fun a b => if_neg (by simp [hs0])
   refine rc1 zs [2, 3, 5] func70 ((MJ fs hfs q hq.fams _ _)) ?_
   refine ns ?_
   exact ⟨_, (he0 _ _).symm, rfl, fun k hk => onn⟩
  have hs0 : ZA fs ≠ 0 := osb
  have he0 : ∀ a b : Int, (if ZA fs ≠ 0 then a else b) = a := fun a b => if_pos hs0
  refine ak ?_
  refine ns ?_
  exact ⟨_, (he0 _ _).symm, rfl, fun k hk => onn⟩
 rintro T1 H1 n1 ⟨e, he, rfl, hA, hB, hlow, rfl⟩
 refine Za fun K1 hK1 => ?_
 refine rg zs [2, 3, 5, 16] ?_
 refine Zb ?_ ?_ <;> intro hb
 ·have hz2 : z = e := by
    rw [hz, he]; rw [he] at hb
    by_cases h1 : ZA fs = 0
    ·rw [if_neg (by simp [h1])] at hb
     have h2 : Xj fs.length q = false := by cases h2 : Xj fs.length q; rfl; (rw [h2] at hb; simp at hb)
     rw [if_neg (by simp [h1]), if_pos h2, if_neg (by simp [h1]), if_neg (by simp [h2])]
    ·rw [if_pos h1, if_pos h1]
  refine rg zs [4] ?_
  refine ar ?_
  rw [← hz2]
  exact ⟨_, rfl, fun k hk => by (try simp only [M4]); (repeat first | rw [if_pos rfl] | rw [if_pos trivial] | rw [if_neg om]); first | done | exact hlow k hk, .kl trivial⟩
 have hs1 : ZA fs = 0 ∧ Xj fs.length q = true := by
   rw [he] at hb
   by_cases h1 : ZA fs = 0
   ·rw [if_neg (by simp [h1])] at hb; refine ⟨h1, ?_⟩; cases h2 : Xj fs.length q; (rw [h2] at hb; simp at hb); rfl
   ·rw [if_pos h1] at hb; simp at hb; exact absurd hb h1
 rw [if_neg (by simp [hs1.1]), if_neg (by simp [hs1.2])] at hz
 refine kay ?_
 refine Za fun K2 hK2 => ?_
 refine rg zs [2, 3, 20] ?_
 refine Zb ?_ ?_ <;> intro hb
 ·have hw0 : 0 < q.whr.length := by have h9 := hb; simp at h9; exact List.length_pos_iff.2 h9
  refine rc zs [3, 7] func71 ((c_ref13_read fs hfs q.whr _ _)) ?_
  refine rg zs [3, 29] ?_
  refine Zb ?_ ?_ <;> intro hb
  ·have hz2 : z = 131 := by have h9 := of_decide_eq_true hb; obtain ⟨w1, w2⟩ := where_rel hs1.1 q.whr; rw [hz, if_pos ⟨hw0, w1.1 h9⟩]; exact w2 h9
   refine kag ?_
   rw [← hz2]
   exact kaO
  have h29 := of_decide_eq_false hb
  rw [if_neg (fun h => h29 ((where_rel hs1.1 q.whr).1.2 h.2))] at hz
  refine kaQ ?_
  refine rk zs [5] fun K V => ?_
  refine ck func60 ((X5 q hq (by have := fits_time hs1.2; omega) _ _)) ?_
  refine kas ?_
  refine kag ?_
  rw [hz]
  exact kaO
 have hw0 : q.whr.length = 0 := by have h9 := hb; simp at h9; simp [h9]
 rw [if_neg om] at hz
 refine kaQ ?_
 refine rk zs [5] fun K V => ?_
 refine ck func60 ((X5 q hq (by have := fits_time hs1.2; omega) _ _)) ?_
 refine kas ?_
 refine kag ?_
 rw [hz]
 exact kaO
instance : Inhabited CR := ⟨CR.none⟩
structure WantOK (fs : List Fml) (q : QryE) : Prop where
 sch : ZA fs = 0
 ok : 0 < q.whr.length → ∃ x, Wn fs q.whr = .ok x
theorem mark_has {q : QryE} (h : (ZV q).2.2 = 0) : decide (q.token.length ≠ 0 ∧ (ZV q).2.2 = 0) = decide (0 < (ZV q).1) := by
 refine decide_eq_decide.2 ⟨fun hc => ?_, fun hp => ⟨fun e => ?_, h⟩⟩
 ·have h2 := h
  unfold ZV at h2 ⊢
  rw [if_neg hc.1] at h2 ⊢
  split at h2
  ·exact absurd h2 odc
  rename_i a1
  rw [if_neg a1]
  split at h2
  ·exact absurd h2 odc
  rename_i a2
  rw [if_neg a2]
  split at h2
  ·exact absurd h2 odc
  rename_i a3
  rw [if_neg a3]
  simp only; omega
 ·unfold ZV at hp; rw [if_pos e] at hp; simp at hp
theorem oo_ref1_Part (b : List UInt8) (hb : b.length ≤ 1099511627776) (H : Heap) (n : Nat) : Zk prog 58 [bys b, .int .i64 0, .int .i64 b.length] H n (OAns H n (bys b)) := by
 have h9 := WI b hb 0 b.length (Nat.zero_le _) (Nat.le_refl _) H n
 rw [List.take_length, List.drop_zero] at h9
 refine h9.mono fun res H1 n1 ⟨hr, hH, hn⟩ => ?_
 subst hr; subst hH; subst hn
 exact OAns.one (.osl (M3 _ _ _) osi (by rw [List.take_of_length_le osi]; exact Ni _ (Wq _))) om (fun k hk => MZ _ _ om) om
theorem l_ref1_Part {js : List Nat} {H : Heap} {a : AV} {b : List UInt8} (ha : LSl js H a 1 (b.map Zd)) (hb : b.length ≤ 1099511627776) (n : Nat) : Ret prog 58 [a, .int .i64 0, .int .i64 b.length] H n (bys b) H n :=
 OAns.fin (OAns.lend (QZ.none H) (.cons ha.l.frz (.cons (.kl trivial) (.cons (.kl trivial) .nil))) (oo_ref1_Part b hb _ _))
theorem ND40.eqs {P Q : Prop} (g : Imp P Q := by (try simp only [go_sem, seval, hsz, hag, hmo, f1, Kc, Ze, ZC, bys, List.length_map]); exact M5) : Imp P Q := g
open ND40 NY in
theorem c_ref13_At (q : QryE) (hq : q.fine) (ht : -9223372036854775808 ≤ q.time ∧ q.time < 9223372036854775808) (clock : Int) (H : Heap) (n : Nat) : Ret prog 37 [Ze q, .int .i64 clock] H n (.tup [.int .i64 (atE q clock).1, .int .i64 (atE q clock).2]) H n := by
 have hsz : (Ze q).sz = 10 := ZP q
 have hag : (Ze q).isAgg = true := rfl
 have hmo : (Ze q).memOK = true := rfl
 obtain ⟨z, hz⟩ : ∃ z, z = atE q clock := ⟨_, rfl⟩
 rw [← hz]
 unfold atE at hz
 have f1 : (n = n + 1) = False := osi
 refine Ret.fin ?_
 refine fw func37 ntmps37 results37 ?_
 refine rg zs [1, 2] ?_
 refine Za fun K1 hK1 => ?_
 refine rc zs [1, 2, 9] func68 ((Qj clock 1 1099511627776 _ _)) ?_
 refine Zb ?_ ?_ <;> intro hb
 ·rw [if_pos (by unfold bout at hb; simp at hb; omega)] at hz
  exact kah
 rw [if_neg (by unfold bout at hb; simp at hb; omega)] at hz
 refine kay ?_
 refine rc zs [1, 2, 6, 7] func60 ((X5 q hq ht _ _)) ?_
 refine Za fun K2 hK2 => ?_
 refine rg zs [1, 2, 6, 7, 16] ?_
 refine Zb ?_ ?_ <;> intro hb
 ·rw [if_pos osb] at hz
  exact kah
 have h0 : (ZV q).2.2 = 0 := osb
 rw [if_neg (by simp [h0])] at hz
 have hmh := mark_has h0
 refine kaQ ?_
 refine Za fun K3 hK3 => ?_
 refine rg zs [1, 2, 6, 19] ?_
 refine Zb ?_ ?_ <;> intro hb
 ·rw [if_pos (by rw [hmh] at hb; exact of_decide_eq_true hb)] at hz
  exact kah
 rw [if_neg (by rw [hmh] at hb; exact of_decide_eq_false hb)] at hz
 refine kba ?_
 refine Za fun K4 hK4 => ?_
 refine rg zs [1, 2, 24] ?_
 refine Zb ?_ ?_ <;> intro hb
 ·rw [if_pos osb] at hz
  exact kah
 rw [if_neg osb] at hz
 refine kb3 ?_
 exact kah
theorem ND41.eqs {P Q : Prop} (g : Imp P Q := by (try simp only [go_sem, seval, hsz, hag, hmo, f1, hst, hql, Kc, Ze, ZC, bys, List.length_map, Z8]); exact M5) : Imp P Q := g
theorem ND41.sd {P : Prop} (g : P := by first | exact ⟨Nat.le_refl _, .inr trivial, om, om⟩ | fail) : P := g
set_option maxHeartbeats 1600000 in
open ND41 NZ in
theorem c_ref13_Start (q : QryE) (hq : q.fine) (ht : -9223372036854775808 ≤ q.time ∧ q.time < 9223372036854775808) (H : Heap) (n : Nat) : Ret prog 25 [Ze q] H n (YE q) H n := by
 have hsz : (Ze q).sz = 10 := ZP q
 have hag : (Ze q).isAgg = true := rfl
 have hmo : (Ze q).memOK = true := rfl
 have hR := readQ_ok q
 obtain ⟨z, hz⟩ : ∃ z, z = Yv q := ⟨_, rfl⟩
 unfold YE
 rw [← hz]
 unfold Yv at hz
 have hql := hsz
 have hst := hsz
 have f1 : (n = n + 1) = False := osi
 have hqf := hq.frm
 have hqt := hq.to
 have hlen := hR.len
 refine Ret.fin ?_
 refine fw func25 ntmps25 results25 ?_
 refine rg zs [1] ?_
 refine rc zs [1, 5, 6] func60 ((X5 q hq ht _ _)) ?_
 refine Za fun K1 hK1 => ?_
 refine rg zs [1, 5, 6, 14] ?_
 refine Zb ?_ ?_ <;> intro hb
 ·rw [if_pos osb] at hz
  refine rg zs [2, 3, 4] ?_
  refine ar ?_
  rw [hz]; exact ⟨_, rfl, fun k hk => oh, .tup (.cons .nilsl (.cons (.kl trivial) (.cons (.kl trivial) .nil)))⟩
 have h0 : (ZV q).2.2 = 0 := osb
 rw [if_neg (by simp [h0])] at hz
 have hmh := mark_has h0
 refine kay ?_
 refine rg zs [1, 5, 7] ?_
 refine Yd [1, 5, 7] (fun T' H' n' => T' = tl [(1, .loc n 0 0 0 []), (5, .loc (n + 1) 0 0 0 []), (7, bys (if q.rev then q.to else q.frm))] ∧ H' = (H.put n (some (.arr 0 10 [Ze q]))).put (n + 1) (some (.arr 0 3 [Kc q])) ∧ n' = n + 2) ?_ ?_
 ·refine rg zs [1, 5, 7, 19] ?_
  refine Zb ?_ ?_ <;> intro hb
  ·refine rg1 zs [1, 5, 7] ?_
   refine ns ?_
   rw [hb]; first | rfl | exact ⟨rfl, rfl, rfl⟩ | exact ⟨rfl, rfl⟩
  refine ak ?_
  refine ns ?_
  rw [hb]; first | rfl | exact ⟨rfl, rfl, rfl⟩ | exact ⟨rfl, rfl⟩
 rintro T1 H1 n1 ⟨rfl, rfl, rfl⟩
 refine Yd [7] (fun T' H' n' => ∃ a js, T' = tl [(7, a)] ∧ LSl js H' a 1 ((if 0 < (ZV q).1 then (if q.rev then (ZV q).2.1 else (ZV q).2.1 ++ [0]) else (if q.rev then q.to else q.frm)).map Zd) ∧ (∀ k, k < n → H' k = H k) ∧ n ≤ n') ?_ ?_
 ·refine rg zs [1, 5, 7, 23] ?_
  refine Zb ?_ ?_ <;> intro hb
  ·have hpos : 0 < (ZV q).1 := by rw [hmh] at hb; exact of_decide_eq_true hb
   refine rg zs [1, 7] ?_
   refine rg zs [7, 28] ?_
   refine Zb ?_ ?_ <;> intro hb
   ·have hrv : q.rev = false := osb
    refine rk1 zs [7] fun K V => ?_
    refine ck func58 ((by have h9 := WI (ZV q).2.1 om 0 (ZV q).2.1.length (Nat.zero_le _) (Nat.le_refl _); rw [List.take_length, List.drop_zero] at h9; exact h9 _ _)) ?_
    refine kas ?_
    refine ns ?_
    refine ns ?_
    rw [if_pos hpos, hrv, if_neg osi]; exact ⟨_, [_], rfl, Own.lsl (.osl (els := ((ZV q).2.1 ++ [0]).map Zd) (by rw [M3, List.map_append]; rfl) osi (by rw [List.take_of_length_le osi]; exact Ni _ (Wq _))), fun k hk => oh, om⟩
   have hrv : q.rev = true := osb
   refine ak ?_
   refine ns ?_
   rw [if_pos hpos, hrv, if_pos rfl]; exact ⟨_, [], rfl, .ro (ZJ _ _), fun k hk => oh, om⟩
  have hpos : ¬ 0 < (ZV q).1 := by rw [hmh] at hb; exact of_decide_eq_false hb
  refine ak ?_
  refine ns ?_
  rw [if_neg hpos]; exact ⟨_, [], rfl, .ro (ZJ _ _), fun k hk => oh, om⟩
 obtain ⟨w, hw⟩ : ∃ w, w = (if 0 < (ZV q).1 then (if q.rev then (ZV q).2.1 else (ZV q).2.1 ++ [0]) else (if q.rev then q.to else q.frm)) := ⟨_, rfl⟩
 rw [← hw]
 rintro T1 H1 n1 ⟨a, js, rfl, hL, hlow, hn1⟩
 have hwl : w.length ≤ 1048576 := by rw [hw]; by_cases a9 : 0 < (ZV q).1 <;> cases q.rev <;> simp [a9] <;> omega
 have hst := hL.st
 have hql := hL.len prog 22
 rw [List.length_map] at hql
 have hzz : z = (w, decide (0 < w.length), 0) := by
   rw [hz, hw]
   by_cases hp : 0 < (ZV q).1
   ·rw [if_pos hp, if_pos hp, decide_eq_true]; have h9 := (hR.row hp).2; cases q.rev <;> simp; omega
   ·rw [if_neg hp, if_neg hp]; cases q.rev <;> rfl
 refine rk zs [2, 3, 4] fun K V => ?_
 refine ck func58 ((l_ref1_Part hL om _)) ?_
 refine kas ?_
 refine ar ?_
 rw [hzz, show decide ((0 : Int) < (w.length : Int)) = decide (0 < w.length) from decide_eq_decide.2 om]; exact ⟨_, rfl, hlow, .kl ⟨WQ _ _, trivial, trivial, trivial⟩⟩
theorem lists_eq {α : Type} [Inhabited α] {a b : List α} (hl : a.length = b.length) (h : ∀ j, j < a.length → a.getD j default = b.getD j default) : a = b :=
 List.ext_getElem hl fun i h1 h2 => by have := h i h1; simpa [List.getD, List.getElem?_eq_getElem h1, List.getElem?_eq_getElem h2] using this
open N0 in
theorem YZ (a b : List UInt8) (H : Heap) (n : Nat) : Ret prog 26 [bys a, bys b] H n (.bool (a == b)) H n := by
 refine fw func26 ntmps26 results26 ?_
 refine kb1 ?_
 refine rc zs [4] func46 ((VS a b _ _)) ?_
 refine ar ?_
 trivial
open N0 in
theorem XO (e : Int) (H : Heap) (n : Nat) : Ret prog 20 [.int .i64 e] H n (.int .i64 e) H n := by
 refine fw func20 ntmps20 results20 ?_
 refine kcu ?_
 refine kal ?_
 trivial
theorem qryE_eq (a b : QryE) : (a = b) ↔ ((((a.frm = b.frm ∧ a.to = b.to) ∧ a.pre = b.pre) ∧ a.token = b.token) ∧ a.fams = b.fams) ∧ ((((a.time = b.time ∧ a.n = b.n) ∧ a.rows = b.rows) ∧ a.rev = b.rev) ∧ a.whr = b.whr) := by
 cases a; cases b; simp only [QryE.mk.injEq]; constructor
 ·rintro ⟨h1, h2, h3, h4, h5, h6, h7, h8, h9, h10⟩; exact ⟨⟨⟨⟨⟨h1, h2⟩, h4⟩, h10⟩, h3⟩, ⟨⟨⟨h5, h6⟩, h7⟩, h8⟩, h9⟩
 ·rintro ⟨⟨⟨⟨⟨h1, h2⟩, h4⟩, h10⟩, h3⟩, ⟨⟨⟨h5, h6⟩, h7⟩, h8⟩, h9⟩; exact ⟨h1, h2, h3, h4, h5, h6, h7, h8, h9, h10⟩
theorem NE10.eqs {P Q : Prop} (g : Imp P Q := by (try simp only [go_sem, seval, hza, haa, hma, hzb, hab, hmb, f1, m1, m2, e1, Ze, ZC, bys, List.length_map, Int.toNat_natCast]); exact M5) : Imp P Q := g
theorem NE10.sd {P : Prop} (g : P := by first | exact ⟨om, om⟩ | (intro _ h9; rw [h9]; rfl) | fail) : P := g
set_option maxRecDepth 100000 in
set_option maxHeartbeats 3200000 in
open NE10 NZ in
theorem JK (a b : QryE) (ha : a.fams.length ≤ 1048576) (hb9 : b.fams.length ≤ 1048576) (H : Heap) (n : Nat) : Ret prog 44 [Ze a, Ze b] H n (.bool (decide (a = b))) H n := by
 have hza : (Ze a).sz = 10 := ZP a
 have haa : (Ze a).isAgg = true := rfl
 have hma : (Ze a).memOK = true := rfl
 have hzb : (Ze b).sz = 10 := ZP b
 have hab : (Ze b).isAgg = true := rfl
 have hmb : (Ze b).memOK = true := rfl
 have f1 : (n = n + 1) = False := osi
 have m1 := hza
 have m2 := hza
 have e1 := hza
 refine Ret.fin ?_
 refine fw func44 ntmps44 results44 ?_
 refine rg zs [2, 3] ?_
 refine Za fun K1 hK1 => ?_
 refine rk zs [2, 3, 44] fun K V => ?_
 refine ck func26 ((YZ a.frm b.frm _ _)) ?_
 refine cg func26 (fun _ => (YZ a.to b.to _ _)) ?_
 refine cg func26 (fun _ => (YZ a.pre b.pre _ _)) ?_
 refine cg func26 (fun _ => (YZ a.token b.token _ _)) ?_
 refine kas ?_
 refine Zb ?_ ?_ <;> intro hb
 ·have hne : ¬ ((((a.frm = b.frm ∧ a.to = b.to) ∧ a.pre = b.pre) ∧ a.token = b.token) ∧ a.fams.length = b.fams.length) := by rintro ⟨⟨⟨⟨h1, h2⟩, h3⟩, h4⟩, h5⟩; rw [h1, h2, h3, h4, h5] at hb; simp at hb
  have hres : decide (a = b) = false := decide_eq_false fun e => hne (by rw [e]; exact ⟨⟨⟨⟨rfl, rfl⟩, rfl⟩, rfl⟩, rfl⟩)
  refine kag ?_
  exact ⟨_, rfl, fun k hk => oh, Frz.eq (by rw [hres]) trivial⟩
 have hl : (((a.frm = b.frm ∧ a.to = b.to) ∧ a.pre = b.pre) ∧ a.token = b.token) ∧ a.fams.length = b.fams.length := by have h9 := hb; clear hb; simp at h9; refine ⟨⟨⟨⟨h9.1.1.1.1, h9.1.1.1.2⟩, h9.1.1.2⟩, h9.1.2⟩, om⟩
 have hlen := hl.2
 refine kay ?_
 refine Za fun K2 hK2 => ?_
 refine rg zs [2, 3, 5] ?_
 refine kbM ?_
 refine Zn (fun T' H' n' => ∃ i : Nat, i ≤ a.fams.length ∧ (∀ j, j < i → a.fams.getD j default = b.fams.getD j default) ∧ T' = tl [(2, .loc n 0 0 0 []), (3, .loc (n + 1) 0 0 0 []), (5, .int .i64 i)] ∧ H' = (H.put n (some (.arr 0 10 [Ze a]))).put (n + 1) (some (.arr 0 10 [Ze b])) ∧ n' = n + 2) (fun T' _ _ => a.fams.length - iv (T' 5)) ?_ ?_
 ·exact kcy
 rintro T1 H1 n1 ⟨i, hi, hfa, rfl, rfl, rfl⟩
 refine Za fun K3 hK3 => ?_
 refine rg zs [2, 3, 5, 49] ?_
 refine Zb ?_ ?_ <;> intro hb
 ·have hci : i < a.fams.length := ott
  have m1 : nth (a.fams.map fun x : Int => (.int .i64 x : AV)) i = .int .i64 (a.fams.getD i default) := Zy (fun x : Int => (.int .i64 x : AV)) a.fams i hci
  have m2 : nth (b.fams.map fun x : Int => (.int .i64 x : AV)) i = .int .i64 (b.fams.getD i default) := Zy (fun x : Int => (.int .i64 x : AV)) b.fams i om
  have e1 : IntKind.i64.wrap ((i : Int) + 1) = ((i + 1 : Nat) : Int) := w1 om
  refine kba ?_
  refine bk fun K4 hK4 => ?_
  refine dx zs [2, 3, 5, 62] [.q, .q, .m, .q, .q, .q, .q, .m, .q, .q, .q] [0, 1, 2, 3, 4, 5, 6, 7, 8, 9, 10] [0, 1, 2, 3, 4, 5, 6, 7, 8, 9, 10] fun K V => ?_
  refine kas ?_
  refine Zb ?_ ?_ <;> intro hb
  ·have hres : decide (a = b) = false := decide_eq_false fun e => by rw [e] at hb; simp at hb
   refine kag ?_
   exact ⟨_, rfl, fun k hk => oh, Frz.eq (by rw [hres]) trivial⟩
  have hxy : a.fams.getD i default = b.fams.getD i default := by have h9 := hb; simp at h9; exact h9
  refine kb3 ?_
  refine rg1 zs [2, 3, 5] ?_
  exact ⟨⟨i + 1, om, fun j hj => (by rcases Nat.lt_or_ge j i with h9 | h9; exact hfa j h9; rw [show j = i by omega]; exact hxy), rfl⟩, by omega⟩
 have hci : i = a.fams.length := otf
 have hff : a.fams = b.fams := lists_eq hlen (hci ▸ hfa)
 refine ax ?_
 apply hK2
 refine kag ?_
 first
 | (refine ⟨_, rfl, fun k hk => oh, Frz.eq ?_ trivial⟩
    rw [show decide (a = b) = decide ((((a.time = b.time ∧ a.n = b.n) ∧ a.rows = b.rows) ∧ a.rev = b.rev) ∧ a.whr = b.whr) from decide_eq_decide.2 (by rw [qryE_eq]; exact ⟨fun h => h.2, fun h => ⟨⟨hl.1, hff⟩, h⟩⟩)]
    clear hl
    by_cases h1 : a.time = b.time <;> by_cases h2 : a.n = b.n <;> by_cases h3 : a.rows = b.rows <;> by_cases h4 : a.rev = b.rev <;> by_cases h5 : a.whr = b.whr <;> simp [h1, h2, h3, h4, h5])
structure LdS (q : QryE) (k1 k2 k3 k4 kw kf vf : Nat) (H : Heap) : Prop where
 h1 : H k1 = some (XJ (k1, q.frm))
 h2 : H k2 = some (XJ (k2, q.to))
 h3 : H k3 = some (XJ (k3, q.pre))
 h4 : H k4 = some (XJ (k4, q.token))
 hw : H kw = some (.arr 0 1 [Y6 (k1, q.frm), Y6 (k2, q.to), Y6 (k3, q.pre), Y6 (k4, q.token)])
 hf : H kf = some (.arr vf 1 ((q.fams ++ [-77]).map fun x : Int => (.int .i64 x : AV)))
 d : (k1 ≠ k2 ∧ k1 ≠ k3 ∧ k1 ≠ k4 ∧ k2 ≠ k3 ∧ k2 ≠ k4 ∧ k3 ≠ k4) ∧ (kw ≠ k1 ∧ kw ≠ k2 ∧ kw ≠ k3 ∧ kw ≠ k4) ∧ (kf ≠ k1 ∧ kf ≠ k2 ∧ kf ≠ k3 ∧ kf ≠ k4 ∧ kf ≠ kw)
def UO (q : QryE) (k1 k2 k3 k4 kf vf : Nat) : AV := qaX q (.osl k1 2 0 q.frm.length) (.osl k2 2 0 q.to.length) (.osl kf vf 0 q.fams.length) (.osl k3 2 0 q.pre.length) (.osl k4 2 0 q.token.length)
def Yc (q : QryE) (k1 k2 k3 k4 kw kf vf : Nat) : AV := .agg [UO q k1 k2 k3 k4 kf vf, .osl kw 0 0 4, .osl kf vf 0 (q.fams.length + 1)]
theorem LdS.on {q : QryE} {k1 k2 k3 k4 kw kf vf : Nat} {H H' : Heap} (h : LdS q k1 k2 k3 k4 kw kf vf H) (hH : ∀ k, k = k1 ∨ k = k2 ∨ k = k3 ∨ k = k4 ∨ k = kw ∨ k = kf → H' k = H k) : LdS q k1 k2 k3 k4 kw kf vf H' :=
 ⟨(hH _ osi).trans h.h1, (hH _ osi).trans h.h2, (hH _ osi).trans h.h3, (hH _ osi).trans h.h4, (hH _ osi).trans h.hw, (hH _ osi).trans h.hf, h.d⟩
theorem LdS.ql {q : QryE} {k1 k2 k3 k4 kw kf vf : Nat} {H : Heap} (h : LdS q k1 k2 k3 k4 kw kf vf H) : QL [k1, k2, kf, k3, k4] H q (.osl k1 2 0 q.frm.length) (.osl k2 2 0 q.to.length) (.osl kf vf 0 q.fams.length) (.osl k3 2 0 q.pre.length) (.osl k4 2 0 q.token.length) := by
 have hf : Own H (.osl kf vf 0 q.fams.length) (ZC q.fams) [kf] := .osl h.hf osi (by rw [← List.map_take, List.take_left]; exact Ni _ (fun x hx => by obtain ⟨y, _, rfl⟩ := List.mem_map.1 hx; trivial))
 exact QL.own (Vq h.h1) (Vq h.h2) hf (Vq h.h3) (Vq h.h4)
def LaidK (q : QryE) (H : Heap) (n : Nat) (res : ARes) (H' : Heap) (n' : Nat) : Prop :=
 n ≤ n' ∧ (∀ k, k < n → H' k = H k) ∧ ∃ k1 k2 k3 k4 kw kf vf, res = .val (Yc q k1 k2 k3 k4 kw kf vf) ∧ LdS q k1 k2 k3 k4 kw kf vf H' ∧ ∀ k, k = k1 ∨ k = k2 ∨ k = k3 ∨ k = k4 ∨ k = kw ∨ k = kf → n ≤ k ∧ k < n'
theorem NE20.eqs {P Q : Prop} (g : Imp P Q := by (try simp only [go_sem, seval, hsz, hag, hmo, f1, f2, f3, f4, f5, hE, Ze, ZC, bys, Nat.add_assoc, List.length_map, List.length_append, Int.toNat_natCast, Option.getD_some, Option.getD_none, Nat.sub_zero]); exact M5) : Imp P Q := g
theorem NE20.sd {P : Prop} (g : P := by first | exact ⟨rfl, by (simp [AV.sz, AV.memOK]; first | done | fail)⟩ | exact ⟨om, .inr trivial, om, om⟩ | exact ⟨.inr trivial, om, om⟩ | omega | fail) : P := g
set_option maxRecDepth 100000 in
set_option maxHeartbeats 3200000 in
open NE20 NZ in
theorem Uo (q : QryE) (hq : q.fine) (H : Heap) (n : Nat) : Zk prog 33 [Ze q] H n (LaidK q H n) := by
 have hsz : (Ze q).sz = 10 := ZP q
 have hag : (Ze q).isAgg = true := rfl
 have hmo : (Ze q).memOK = true := rfl
 have h1 := hq.frm
 have h2 := hq.to
 have h3 := hq.pre
 have h4 := hq.token
 have h5 := hq.fams
 have f1 : (n = n + 1) = False := osi
 have f2 : (n = n + 2) = False := osi
 have f3 : (n + 2 = n) = False := osi
 have f4 : (n = n + 3) = False := osi
 have f5 : (n + 2 = n + 3) = False := osi
 have hE : List.take q.fams.length (List.map (fun x : Int => (.int .i64 x : AV)) q.fams) = List.map (fun x : Int => (.int .i64 x : AV)) q.fams := List.take_of_length_le osi
 refine fw func33 ntmps33 results33 ?_
 refine rg zs [1, 2] ?_
 refine rg zs [1, 2, 3] ?_
 refine Yg (n + 2) 1 (ver := 0) (e := 12) (els := [.agg [Ze q, .nilsl, .nilsl]]) (els' := [.agg [Ze q, .nilsl, .osl (n + 3) 0 0 0]]) ohr ⟨Adp.agg ⟨.refl _ _, .refl _ _, Adp.nilsl _, trivial⟩, trivial⟩ ?_
 refine rk zs [1, 2, 3, 4, 5] fun K V => ?_
 refine ck func65 ((YV q.frm om _ _)) ?_
 refine kas ?_
 refine rk zs [1, 2, 3, 4, 5, 6, 7] fun K V => ?_
 refine ck func65 ((YV q.to om _ _)) ?_
 refine kas ?_
 refine rk zs [1, 2, 3, 4, 5, 6, 7, 8, 9] fun K V => ?_
 refine ck func65 ((YV q.pre om _ _)) ?_
 refine kas ?_
 refine rk zs [1, 2, 3, 4, 5, 6, 7, 8, 9, 10, 11] fun K V => ?_
 refine ck func65 ((YV q.token om _ _)) ?_
 refine kas ?_
 refine rg zo [1, 2, 3, 4, 6, 8, 10] ?_
 refine rg zs [1, 2, 3, 4, 6, 8, 10] ?_
 refine rg zs [1, 2, 3, 6, 8, 10] ?_
 refine rg zs [1, 2, 3, 8, 10] ?_
 refine rg zs [1, 2, 3, 10] ?_
 refine rg zs [1, 2, 3] ?_
 refine rg zs [2, 3] ?_
 refine kal ?_
 refine ⟨om, fun k hk => oh, n + 4, n + 5, n + 6, n + 7, n + 8, n + 3, 2, rfl, ⟨oh, oh, oh, oh, ohr, by refine ohx ?_; rw [List.map_append]; rfl, om⟩, fun k hk => om⟩
theorem nth_mem2 {l : List AV} {i : Nat} (h : i < l.length) : nth l i ∈ l := by simp [nth, List.getD, List.getElem?_eq_getElem h]
def ldB (q : QryE) (k1 k2 k3 k4 : Nat) : List (Nat × List UInt8) := [(k1, q.frm), (k2, q.to), (k3, q.pre), (k4, q.token)]
theorem mem_drop {α : Type} [Inhabited α] {l : List α} {i : Nat} (h : i < l.length) : ∀ x ∈ l.drop (i + 1), x ∈ l.drop i := fun x hx => by rw [YQ l i h]; exact List.mem_cons_of_mem _ hx
theorem frz_marks {H : Heap} {p : Nat × List UInt8} (h : H p.1 = some (XJ p)) : Frz H 0 (.osl p.1 2 p.2.length 5) (bys VX) := by
 refine .osl h (Nat.zero_le _) (by simp [VX]) ?_
 rw [List.map_append, List.drop_append_of_le_length osi, List.drop_of_length_le osi, List.nil_append, List.take_of_length_le (by simp [VX])]
 exact XY _ (ZJ _ _)
def KeptK (q : QryE) (k1 k2 k3 k4 kf : Nat) (H : Heap) (n : Nat) (res : ARes) (H' : Heap) (n' : Nat) : Prop :=
 n ≤ n' ∧ (∀ k, k < n → k ≠ k1 → k ≠ k2 → k ≠ k3 → k ≠ k4 → k ≠ kf → H' k = H k) ∧ res = .val (.bool true)
theorem NE21.eqs {P Q : Prop} (g : Imp P Q := by (try simp only [go_sem, seval, hsz, hag, hmo, f1, f2, b1, b2, b3, b4, g1, g2, g3, g4, hnth, e1, e2, e3, e4, hfn, hf0, g5, g6, hpo1, Yc, UO, qaX, Ze, ZC, bys, Y6, Nat.add_assoc, List.length_map, List.length_append, List.length_cons, List.length_nil, Int.toNat_natCast, Option.getD_some, Option.getD_none, Nat.zero_add]); exact M5) : Imp P Q := g
theorem NE21.sd {P : Prop} (g : P := by first | exact fun _ => ⟨om, om⟩ | (intro _; omega) | exact ⟨om, hez _ (nth_mem2 om)⟩ | fail) : P := g
set_option maxRecDepth 100000 in
set_option maxHeartbeats 6400000 in
open NE21 NZ in
theorem XR (q : QryE) (hq : q.fine) (k1 k2 k3 k4 kw kf vf : Nat) (H : Heap) (n : Nat) (h : LdS q k1 k2 k3 k4 kw kf vf H) (hk : ∀ k, k = k1 ∨ k = k2 ∨ k = k3 ∨ k = k4 ∨ k = kw ∨ k = kf → k < n) :
   Zk prog 35 [Yc q k1 k2 k3 k4 kw kf vf, Ze q] H n (KeptK q k1 k2 k3 k4 kf H n) := by
 have hsz : (Ze q).sz = 10 := ZP q
 have hag : (Ze q).isAgg = true := rfl
 have hmo : (Ze q).memOK = true := rfl
 have d1 := hk k1 osi
 have d2 := hk k2 osi
 have d3 := hk k3 osi
 have d4 := hk k4 osi
 have d5 := hk kw osi
 have d6 := hk kf osi
 obtain ⟨q1, q2, q3⟩ := h.d
 have hB : ∀ p ∈ ldB q k1 k2 k3 k4, p.1 < n ∧ p.1 ≠ kw ∧ p.1 ≠ kf ∧ p.2.length ≤ 1048576 := fun p hp => by
   have h1 := hq.frm; have h2 := hq.to; have h3 := hq.pre; have h4 := hq.token
   simp only [ldB, List.mem_cons, List.not_mem_nil, or_false] at hp
   rcases hp with rfl | rfl | rfl | rfl <;> simp only <;> omega
 have hBd : ((ldB q k1 k2 k3 k4).map (·.1)).Nodup := by simp [ldB]; omega
 have hBl : (ldB q k1 k2 k3 k4).length = 4 := rfl
 have hw0 : H kw = some (.arr 0 1 ((ldB q k1 k2 k3 k4).map Y6)) := h.hw
 have hb0 : ∀ p ∈ ldB q k1 k2 k3 k4, H p.1 = some (XJ p) := fun p hp => by
   simp only [ldB, List.mem_cons, List.not_mem_nil, or_false] at hp
   rcases hp with rfl | rfl | rfl | rfl
   ·exact h.h1
   ·exact h.h2
   ·exact h.h3
   ·exact h.h4
 have hf0 := h.hf
 have hfl := hq.fams
 have hsQ : ∀ (Hc : Heap), (∀ k, k < n → Hc k = H k) → ∀ m, Ret prog 44 [UO q k1 k2 k3 k4 kf vf, Ze q] Hc m (.bool true) Hc m := fun Hc hc m => by
   have := JK q q hq.fams hq.fams (fun _ => none) 0
   rw [decide_eq_true rfl] at this
   exact Ret.lend trivial (.cons (h.on fun k hk2 => hc k (hk k hk2)).ql.frz (.cons (.kl (kl_qry q 0)) .nil)) this
 have f1 : (n = n + 1) = False := osi
 have f2 : (n + 1 = n) = False := osi
 have b1 := hsz
 have b2 := hsz
 have b3 := hsz
 have b4 := hsz
 have g1 : (kf = n) = False := oz
 have g2 : (kf = n + 1) = False := oz
 have g3 : (kw = n) = False := oz
 have g4 : (kw = n + 1) = False := oz
 have hnth := hsz
 have e1 := hsz
 have e2 := hsz
 have e3 := hsz
 have e4 := hsz
 have g5 := hsz
 have g6 := hsz
 have hpo1 := hsz
 have hfn : nth (List.map (fun x : Int => (.int .i64 x : AV)) (q.fams ++ [-77])) q.fams.length = .int .i64 (-77) := by
   rw [Zy (fun x : Int => (.int .i64 x : AV)) (q.fams ++ [-77]) q.fams.length osi]; simp [List.getD]
 refine fw func35 ntmps35 results35 ?_
 refine rg zs [2, 3] ?_
 refine rk zs [2, 5] fun K V => ?_
 refine ck func44 ((hsQ _ (fun k hk => oh) _)) ?_
 apply V; clear V K
 refine Za fun K1 hK1 => ?_
 refine rg zs [2, 5, 6] ?_
 refine ZG ?_
 refine Zn (fun T' H' n' => ∃ i : Nat, i ≤ 4 ∧ T' = tl [(2, .loc n 0 0 0 []), (5, .bool true), (6, .int .i64 i)] ∧ H' n = some (.arr 0 12 [Yc q k1 k2 k3 k4 kw kf vf]) ∧ H' kw = some (.arr 0 1 ((ldB q k1 k2 k3 k4).map Y6)) ∧ H' kf = some (.arr vf 1 ((q.fams ++ [-77]).map fun x : Int => (.int .i64 x : AV))) ∧ (∀ p ∈ (ldB q k1 k2 k3 k4).drop i, H' p.1 = some (XJ p)) ∧ (∀ k, k < n → k ≠ k1 → k ≠ k2 → k ≠ k3 → k ≠ k4 → k ≠ kf → H' k = H k) ∧ n' = n + 2) (fun T' _ _ => 4 - iv (T' 6)) ?_ ?_
 ·exact ⟨0, om, rfl, ohr, ohx hw0, ohx hf0, fun p hp => by have := hB p hp; refine ohx ?_; exact hb0 p hp, fun k a1 a2 a3 a4 a5 a6 => oh, rfl⟩
 rintro T1 H1 n1 ⟨i, hi, rfl, b1, b2, b3, hdr, hlow, rfl⟩
 unfold Yc UO qaX at b1
 refine Za fun K2 hK2 => ?_
 refine rg zs [2, 5, 6, 28] ?_
 refine Zb ?_ ?_ <;> intro hb
 ·have hci : i < (ldB q k1 k2 k3 k4).length := by rw [hBl]; have := of_decide_eq_true hb; omega
  have hnth : nth ((ldB q k1 k2 k3 k4).map Y6) i = Y6 ((ldB q k1 k2 k3 k4).getD i default) := Zy Y6 _ i hci
  have hpm := WL (ldB q k1 k2 k3 k4) hci
  have hpd : (ldB q k1 k2 k3 k4).getD i default ∈ (ldB q k1 k2 k3 k4).drop i := by rw [YQ _ i hci]; simp
  have hpo := hdr _ hpd
  have hne : ∀ p ∈ (ldB q k1 k2 k3 k4).drop (i + 1), p.1 ≠ ((ldB q k1 k2 k3 k4).getD i default).1 := fun p hp e => by
    have hn := hBd
    rw [← List.take_append_drop i (ldB q k1 k2 k3 k4), YQ _ i hci, List.map_append, List.map_cons, List.nodup_append] at hn
    exact (List.nodup_cons.1 hn.2.1).1 (List.mem_map.2 ⟨p, hp, e⟩)
  have hB1 := hB _ hpm
  have hpk : ((ldB q k1 k2 k3 k4).getD i default).1 = k1 ∨ ((ldB q k1 k2 k3 k4).getD i default).1 = k2 ∨ ((ldB q k1 k2 k3 k4).getD i default).1 = k3 ∨ ((ldB q k1 k2 k3 k4).getD i default).1 = k4 := by simp only [ldB, List.mem_cons, List.not_mem_nil, or_false] at hpm; rcases hpm with e | e | e | e <;> rw [show (ldB q k1 k2 k3 k4).getD i default = _ from e] <;> simp
  generalize (ldB q k1 k2 k3 k4).getD i default = p at *
  have e1 : IntKind.i64.wrap ((i : Int) + 1) = ((i + 1 : Nat) : Int) := w1 om
  have e2 : IntKind.i64.wrap (((p.2.length + 5 : Nat) : Int) - 5) = (p.2.length : Int) := by rw [w64 om om]; omega
  have e4 : p.2.length + 5 - p.2.length = 5 := om
  have g5 : (n = p.1) = False := oz
  have g6 : (kw = p.1) = False := oz
  have hpo1 := hpo
  unfold XJ at hpo1
  have hsm : ∀ (Hc : Heap), Hc p.1 = some (XJ p) → ∀ m, Ret prog 26 [.osl p.1 2 p.2.length 5, bys VX] Hc m (.bool true) Hc m := fun Hc hc m => by
    exact kbC
  refine ak ?_
  apply hK2
  refine bk fun K3 hK3 => ?_
  refine rg zs [2, 5, 6, 7] ?_
  refine rk zs [2, 5, 6] fun K V => ?_
  refine cg func26 (fun _ => (hsm _ hpo _)) ?_
  apply V; clear V K
  refine rg zs [2, 5, 6, 8] ?_
  refine ZG ?_
  refine Zn (fun T' H' n' => ∃ (j : Nat) (els : List AV), j ≤ p.2.length + 5 ∧ els.length = p.2.length + 5 ∧ (∀ x ∈ els, x.sz = 1) ∧ T' = tl [(2, .loc n 0 0 0 []), (5, .bool true), (6, .int .i64 i), (8, .int .i64 j)] ∧ H' n = some (.arr 0 12 [Yc q k1 k2 k3 k4 kw kf vf]) ∧ H' kw = some (.arr 0 1 ((ldB q k1 k2 k3 k4).map Y6)) ∧ H' kf = some (.arr vf 1 ((q.fams ++ [-77]).map fun x : Int => (.int .i64 x : AV))) ∧ H' p.1 = some (.arr 2 1 els) ∧ (∀ p ∈ (ldB q k1 k2 k3 k4).drop (i + 1), H' p.1 = some (XJ p)) ∧ (∀ k, k < n → k ≠ k1 → k ≠ k2 → k ≠ k3 → k ≠ k4 → k ≠ kf → H' k = H k) ∧ n' = n + 2) (fun T' _ _ => p.2.length + 5 - iv (T' 8)) ?_ ?_
  ·exact ⟨0, (p.2 ++ VX).map Zd, om, by simp [VX], (fun x hx => by obtain ⟨y, _, rfl⟩ := List.mem_map.1 hx; rfl), rfl, b1, b2, b3, hpo, fun p hp => hdr p (mem_drop hci p hp), hlow, rfl⟩
  rintro T1 H1 n1 ⟨j, els, hj, hel, hez, rfl, b1, b2, b3, b4, hdr2, hlow2, rfl⟩
  unfold Yc UO qaX at b1
  refine Za fun K4 hK4 => ?_
  refine rg zs [2, 5, 6, 8, 57] ?_
  refine Zb ?_ ?_ <;> intro hb
  ·have hcj : j < p.2.length + 5 := ott
   have e3 : IntKind.i64.wrap ((j : Int) + 1) = ((j + 1 : Nat) : Int) := w1 om
   have g7 : (n = p.1) = False := g5
   refine ak ?_
   apply hK4
   refine bk fun K5 hK5 => ?_
   refine rg1 zs [2, 5, 6, 8] ?_
   apply hK5
   refine rg1 zs [2, 5, 6, 8] ?_
   refine ⟨⟨j + 1, els.set j (.int .u8 99), om, by rw [List.length_set]; exact hel, fun x hx => ?_, rfl, ?_⟩, om⟩
   ·rcases List.mem_or_eq_of_mem_set hx with h9 | h9; exact hez x h9; rw [h9]; rfl
   ·(repeat' apply And.intro) <;> first | rfl | ((try simp only [M4]); (repeat first | rw [if_pos rfl] | rw [if_pos trivial] | rw [if_neg om]); first | done | exact b1 | exact b2 | exact b3 | exact b4) | (intro p2 hp2; have := hne p2 hp2; refine ohx ?_; exact hdr2 p2 hp2) | (intro k a1 a2 a3 a4 a5 a6; refine ohx ?_; exact hlow2 k a1 a2 a3 a4 a5 a6) | omega
  refine ax ?_
  apply hK3
  refine rg1 zs [2, 5, 6] ?_
  refine ⟨⟨i + 1, om, rfl, ?_⟩, om⟩
  (repeat' apply And.intro) <;> first | rfl | exact b1 | exact b2 | exact b3 | exact hdr2 | exact hlow2
 have hci : i = 4 := otf
 refine ax ?_
 apply hK1
 refine Za fun K6 hK6 => ?_
 refine rg zs [2, 5, 9] ?_
 refine ZG ?_
 refine Zn (fun T' H' n' => ∃ (j : Nat) (els : List AV), j ≤ q.fams.length + 1 ∧ els.length = q.fams.length + 1 ∧ (∀ x ∈ els, x.sz = 1) ∧ T' = tl [(2, .loc n 0 0 0 []), (5, .bool true), (9, .int .i64 j)] ∧ H' n = some (.arr 0 12 [Yc q k1 k2 k3 k4 kw kf vf]) ∧ H' kf = some (.arr vf 1 els) ∧ (∀ k, k < n → k ≠ k1 → k ≠ k2 → k ≠ k3 → k ≠ k4 → k ≠ kf → H' k = H k) ∧ n' = n + 2) (fun T' _ _ => q.fams.length + 1 - iv (T' 9)) ?_ ?_
 ·exact ⟨0, _, om, osi, (fun x hx => by obtain ⟨y, _, rfl⟩ := List.mem_map.1 hx; rfl), rfl, b1, b3, hlow, rfl⟩
 rintro T1 H1 n1 ⟨j, els, hj, hel, hez, rfl, b1, b3, hlow, rfl⟩
 unfold Yc UO qaX at b1
 refine Za fun K7 hK7 => ?_
 refine rg zs [2, 5, 9, 71] ?_
 refine Zb ?_ ?_ <;> intro hb
 ·have hcj : j < q.fams.length + 1 := ott
  have e3 : IntKind.i64.wrap ((j : Int) + 1) = ((j + 1 : Nat) : Int) := w1 om
  refine ak ?_
  apply hK7
  refine bk fun K8 hK8 => ?_
  refine rg1 zs [2, 5, 9] ?_
  apply hK8
  refine rg1 zs [2, 5, 9] ?_
  refine ⟨⟨j + 1, els.set j (.int .i64 (-99)), om, by rw [List.length_set]; exact hel, fun x hx => ?_, rfl, ?_⟩, om⟩
  ·rcases List.mem_or_eq_of_mem_set hx with h9 | h9; exact hez x h9; rw [h9]; rfl
  ·(repeat' apply And.intro) <;> first | rfl | ((try simp only [M4]); (repeat first | rw [if_pos rfl] | rw [if_pos trivial] | rw [if_neg om]); first | done | exact b1 | exact b3) | (intro k a1 a2 a3 a4 a5 a6; refine ohx ?_; exact hlow k a1 a2 a3 a4 a5 a6) | omega
 refine ax ?_
 apply hK6
 refine rg zs [4] ?_
 refine ar ?_
 exact ⟨om, hlow, rfl⟩
end Go.Proofs.YtkmkbndcekklmaaGreatDoor
namespace Go.Sx
open Go
end Go.Sx
set_option maxRecDepth 10000
namespace Go.Proofs.YtkmkbndcekklmaaGreatDoor
open Go Go.Sx Go.Rt Go.Proofs Tryz
theorem _root_.Go.Sx.Zk.adoptO {P : Program} {f : FuncId} {args : List AV} {H : Heap} {n : Nat} {K : ARes → Heap → Nat → Prop} (k esz : Nat) {ver e : Nat} {els els' : List AV} (hk : H k = some (.arr ver e els)) (ha : AdpL n els els')
   (h : Zk P f args ((H.put n (some (.arr 0 esz []))).put k (some (.arr ver e els'))) (n + 1) K) : Zk P f args H n K := fun c w vs hs hr => by
 have hst := Nq hs esz
 have hkn : k ≠ n := fun e => by subst e; rw [(hs.fresh _ (Nat.le_refl _)).1] at hk; simp at hk
 have hst2 := Step.retell (els' := els') hst.sim (k := k) (by rw [MZ _ _ hkn]; exact hk) (fun ds hd => ha.relF M6 hd) ha.len.symm ha.szAll
 exact (h _ w vs (hst.trans hst2).sim (RelT.mono (hst.trans hst2).le _ _ hr)).mono fun e w' ⟨res, c', H', n', V, hst3, hm⟩ => ⟨res, c', H', n', V, (hst.trans hst2).trans hst3, hm⟩
def srcN (rows : List RowE) (err : Int) : AObj := .arr 0 5 [.agg [.sl 2 (rows.map ZU), .int .i64 err, .int .i64 0, .nilsl, .nilsl]]
def RunO (ks : Nat) (z : PgE × Nat × Int) (H : Heap) (n : Nat) (res : ARes) (H' : Heap) (n' : Nat) : Prop :=
 n ≤ n' ∧ (∀ k, k < n → k ≠ ks → H' k = H k) ∧ ∃ a pk, res = .val (.tup [a, .int .i64 z.2.2]) ∧ Own H' a (pgAV z.1) pk ∧ pk.Nodup ∧ (∀ k ∈ pk, n ≤ k ∧ k < n')
def RunP (ks : Nat) (z : PgE × Nat × Int) (H : Heap) (n : Nat) (res : ARes) (H' : Heap) (n' : Nat) : Prop :=
 n ≤ n' ∧ (∀ k, k < n → k ≠ ks → H' k = H k) ∧ res = .val (.tup [pgAV z.1, .int .i64 z.2.2])
theorem RunO.frz {ks : Nat} {z : PgE × Nat × Int} {H : Heap} {n : Nat} {P : Program} {f : FuncId} {args : List AV} (h : Zk P f args H n (RunO ks z H n)) : Zk P f args H n (RunP ks z H n) :=
 h.frzS fun res H1 n1 ⟨h1, h2, a, pk, hr, ho, hd, hp⟩ => by
   have e := Nr (j := .i64) (y := z.2.2) ho
   exact ⟨_, _, fun k => k ∈ pk, inferInstance, hr, FzO.own e (fun k hk => hk), h1, fun k a b => (Heap.dropS_ne (S := fun k => k ∈ pk) (fun hm => by have := hp k hm; omega)).trans (h2 k a b), rfl⟩
theorem o_query_Run (fs : List Fml) (hfs : fs.length ≤ 1048576) (q : QryE) (hqf : q.fine) (clock : Int) (rows : List RowE) (err : Int) (hrw : U4 rows) (ks : Nat) {H : Heap} {n : Nat} (hG : GOK 1 1 H n) (hs : H ks = some (srcN rows err)) :
   Zk prog 18 [Zi fs, Ze q, .int .i64 clock, .iface 52 (.loc ks 0 0 0 [])] H n (RunO ks (runE fs q clock (some (rows, err))) H n) :=
 Zk.below hs fun hks => by
   refine Zk.adoptO ks 1 (ver := 0) (e := 5) (els := [.agg [.sl 2 (rows.map ZU), .int .i64 err, .int .i64 0, .nilsl, .nilsl]]) (els' := [.agg [.sl 2 (rows.map ZU), .int .i64 err, .int .i64 0, .osl n 0 0 0, .nilsl]]) hs ⟨Adp.agg ⟨.refl _ _, .refl _ _, .refl _ _, Adp.nilsl _, .refl _ _, trivial⟩, trivial⟩ ?_
   refine Zk.adoptO ks 2 (ver := 0) (e := 5) (els := [.agg [.sl 2 (rows.map ZU), .int .i64 err, .int .i64 0, .osl n 0 0 0, .nilsl]]) (els' := [Uh rows err 0 n 0 0 (n + 1) 0 0]) (M3 _ _ _) ⟨Adp.agg ⟨.refl _ _, .refl _ _, .refl _ _, .refl _ _, Adp.nilsl _, trivial⟩, trivial⟩ ?_
   obtain ⟨H2, hH2⟩ : ∃ x, x = (((((H.put n (some (.arr 0 1 []))).put ks (some (.arr 0 5 [.agg [.sl 2 (rows.map ZU), .int .i64 err, .int .i64 0, .osl n 0 0 0, .nilsl]]))).put (n + 1) (some (.arr 0 2 []))).put ks (some (.arr 0 5 [Uh rows err 0 n 0 0 (n + 1) 0 0]))) : Heap) := ⟨_, rfl⟩
   rw [← hH2]
   have g1 : H2 ks = some (.arr 0 5 [Uh rows err 0 n 0 0 (n + 1) 0 0]) := by rw [hH2]; (try simp only [M4]); (repeat first | rw [if_pos rfl] | rw [if_pos trivial] | rw [if_neg om])
   have g2 : H2 n = some (.arr 0 1 []) := by rw [hH2]; (try simp only [M4]); (repeat first | rw [if_pos rfl] | rw [if_pos trivial] | rw [if_neg om])
   have g3 : H2 (n + 1) = some (.arr 0 2 []) := by rw [hH2]; (try simp only [M4]); (repeat first | rw [if_pos rfl] | rw [if_pos trivial] | rw [if_neg om])
   have g4 : ∀ k, k < n → k ≠ ks → H2 k = H k := fun k a b => by rw [hH2]; (try simp only [M4]); (repeat first | rw [if_pos rfl] | rw [if_pos trivial] | rw [if_neg om])
   have hne : ∀ g o, H g = some (.glob o Uv) → g ≠ ks := fun g o hg e => by rw [e, hs] at hg; cases hg
   have hne2 : ∀ g o, H g = some (.glob o Mf) → g ≠ ks := fun g o hg e => by rw [e, hs] at hg; cases hg
   have hG2 : GOK 1 1 H2 (n + 1 + 1) := hG.at2 (by
     by_cases hn : (1 : Nat) = 1
     ·rw [hn]; exact g4 _ hG.get (hne _ _ hG.table)
     ·exact g4 _ hG.gek (hne2 _ _ (hG.kindsC hn))) (g4 _ hG.get (hne _ _ hG.table)) om
   have hS : SrcS rows err ks n (n + 1) (n + 2) 0 0 0 [] [] [] H2 (n + 1 + 1) := ⟨g1, g2, fun p hp => (by cases hp), fun p hp => (by cases hp), osi, g3, Pile.nil _ _ _, om, fun p hp => (by cases hp)⟩
   refine (x_query_Run fs hfs q hqf clock rows err hrw ks n (n + 1) (n + 2) 0 0 hG2 (QL.ro q H2) (fun j hj => by cases hj) hS).mono ?_
   rintro res H3 n3 ⟨h1, h2, a, pk, vw, vt, kb, tels, tk, hr, ho, hd, hp, _⟩
   exact ⟨om, fun k a b => (h2 k om b om om).trans (g4 k a b), a, pk, hr, ho, hd, fun k hk => by have := hp k hk; omega⟩
theorem Wy (fs : List Fml) (hfs : fs.length ≤ 1048576) (q : QryE) (hqf : q.fine) (clock : Int) (rows : List RowE) (err : Int) (hrw : U4 rows) (ks : Nat) {H : Heap} {n : Nat} (hG : GOK 1 1 H n) (hs : H ks = some (srcN rows err)) :
 Zk prog 18 [Zi fs, Ze q, .int .i64 clock, .iface 52 (.loc ks 0 0 0 [])] H n (RunP ks (runE fs q clock (some (rows, err))) H n) := RunO.frz (o_query_Run fs hfs q hqf clock rows err hrw ks hG hs)
def twoF : List Fml := [⟨[97], 3, 0⟩, ⟨[98], 3, 0⟩]
def Wm (i : Nat) : RowE := ⟨[114, UInt8.ofNat (49 + i)], [⟨0, [120], 5, [49]⟩, ⟨1, [121], 4, [50]⟩]⟩
def Yb : List RowE := [Wm 0, Wm 1, Wm 2]
open N0 in
theorem Ql (H : Heap) (n : Nat) : Ret prog 14 [] H n (Zi twoF) H n := by
 refine Ret.fin ?_
 refine fw func14 ntmps14 results14 ?_
 refine kcu ?_
 refine kcu ?_
 refine ar ?_
 exact ⟨_, rfl, fun k hk => oh, .kl (kl_sch twoF _)⟩
theorem plain_at {i : Nat} (h : i < 3) : Yb.getD i default = Wm i := by rcases i with _ | _ | _ | i <;> first | rfl | omega
theorem plain_byte {i : Nat} (h : i < 3) : Zd (UInt8.ofNat (49 + i)) = .int .u8 ((49 + i : Nat) : Int) := by rcases i with _ | _ | _ | i <;> first | rfl | omega
theorem NE60.eqs {P Q : Prop} (g : Imp P Q := by (try simp only [go_sem, seval, e1, e2, e3, e4, g1, g2, g3, g4, g5, g6, hst, Nat.add_assoc]); exact M5) : Imp P Q := g
theorem NE60.inz {P Q : Prop} (g : Imp P Q := by refine Imp.up eqs ?_; (repeat (first | (refine Imp.nd ?_ ?_; · first | exact ⟨rfl, fun x hx => by simp only [List.mem_cons, List.not_mem_nil, or_false] at hx; rcases hx with rfl | rfl <;> exact ⟨rfl, rfl⟩⟩ | exact ⟨1, rfl, rfl⟩) | refine Imp.pl ?_)); exact M5) : Imp P Q := g
set_option maxHeartbeats 1600000 in
open NE60 in
theorem V7 (H : Heap) (n : Nat) : Ret prog 17 [] H n (.sl 2 (Yb.map ZU)) H n := by
 have e1 : n = n := rfl
 have e2 : n = n := rfl
 have e3 : n = n := rfl
 have e4 : n = n := rfl
 have g6 : n = n := rfl
 have hst : n = n := rfl
 have g1 : ∀ k : Nat, (k = k + 1) = False := fun k => by simp
 have g2 : ∀ k : Nat, (k = k + 2) = False := fun k => by simp
 have g3 : ∀ k : Nat, (k = k + 3) = False := fun k => by simp
 have g4 : ∀ k : Nat, (k = k + 4) = False := fun k => by simp
 have g5 : ∀ k : Nat, (k = k + 5) = False := fun k => by simp
 refine Ret.fin ?_
 refine fw func17 ntmps17 results17 ?_
 refine rg zs [] ?_
 refine rg zs [1] ?_
 refine Za fun K1 hK1 => ?_
 refine Yr 1 2 rfl ?_
 refine rg zs [1, 2] ?_
 refine ZG ?_
 refine Zn (fun T' H' n' => ∃ i : Nat, i ≤ 3 ∧ T' = tl [(1, .osl n i 0 i), (2, .int .i64 i)] ∧ H' n = some (.arr i 2 ((Yb.take i).map ZU)) ∧ (∀ k, k < n → H' k = H k) ∧ n' = n + 1 + 6 * i) (fun T' _ _ => 3 - iv (T' 2)) ?_ ?_
 ·exact ⟨0, by omega, rfl, by (try simp only [M4]); (repeat first | rw [if_pos rfl] | rw [if_pos trivial] | rw [if_neg (by omega)]); rfl, fun k hk => by (try simp only [M4]); (repeat first | rw [if_pos rfl] | rw [if_pos trivial] | rw [if_neg (by omega)]), rfl⟩
 rintro T1 H1 n1 ⟨i, hi, rfl, b1, hlow, hn1⟩
 refine Za fun K2 hK2 => ?_
 refine rg zs [1, 2, 5] ?_
 refine Zb ?_ ?_ <;> intro hb
 ·have hci : i < 3 := by have := of_decide_eq_true hb; omega
  have e1 : IntKind.i64.wrap (49 + (i : Int)) = ((49 + i : Nat) : Int) := by rw [w64 (by omega) (by omega)]; omega
  have e2 : IntKind.u8.wrap ((49 + i : Nat) : Int) = ((49 + i : Nat) : Int) := by rcases i with _ | _ | _ | i <;> first | rfl | omega
  have e3 : IntKind.i64.wrap ((i : Int) + 1) = ((i + 1 : Nat) : Int) := w1 (by omega)
  have e4 : (n = n1) = False := by simp; omega
  refine ak ?_
  apply hK2
  refine bk fun K3 hK3 => ?_
  refine rg zs [1, 2, 3] ?_
  refine rg zo [1, 2, 3] ?_
  refine MO (n1 + 5) n1 (ver := 0) (e := 4) (els := (Wm i).cells.map Zv) (vj := 0) (ej := 2) (lj := [.agg [.sl 1 [.int .u8 114, .int .u8 ((49 + i : Nat) : Int)], .osl (n1 + 5) 0 0 2]]) (lj' := [ZU (Wm i)]) (by (try simp only [M4]); (repeat first | rw [if_pos rfl] | rw [if_pos trivial] | rw [if_neg (by omega)]); rfl) (by (try simp only [M4]); (repeat first | rw [if_pos rfl] | rw [if_pos trivial] | rw [if_neg (by omega)])) (by omega) ⟨FzV.agg ⟨?_, FzV.osl (off := 0) (len := 2) (by simp [Wm]), trivial⟩, trivial⟩ ?_
  ·rw [← plain_byte hci]; exact .refl _
  have g6 : ∀ j : Nat, (n = n1 + j) = False := fun j => by simp; omega
  have hst : strip true (ZU (Wm i)) = ZU (Wm i) := rfl
  have hl : (List.map ZU (List.take i Yb)).length = i := by rw [List.length_map, List.length_take, show Yb.length = 3 from rfl]; omega
  have hrs := rowAV_sz (Wm i)
  have hrm : (ZU (Wm i)).memOK = true := rfl
  have hra : (ZU (Wm i)).isAgg = true := rfl
  refine ZH zs [1, 2] fun K V => ?_
  try simp only [go_sem, seval, e1, e2, e3, e4, g1, g2, g3, g4, g5, g6, hst, Nat.add_assoc, hrs, hrm, hra, b1]
  repeat (first | (refine And.intro ?_ ?_; · first | exact ⟨by omega, .inr trivial, by omega, by omega⟩ | exact ⟨rfl, fun x hx => by rw [List.mem_singleton.1 hx]; exact ⟨hrs, hrm⟩⟩) | refine peel ?_)
  apply V; clear V K
  refine ns ?_
  apply hK3
  refine rg1 zs [1, 2] ?_
  refine ⟨⟨i + 1, by omega, rfl, ?_, fun k hk => by (try simp only [M4]); (repeat first | rw [if_pos rfl] | rw [if_pos trivial] | rw [if_neg (by omega)]); exact hlow k hk, by omega⟩, by omega⟩
  rw [Qx Yb (show i < Yb.length from hci), plain_at hci]
  (try simp only [M4]); (repeat first | rw [if_pos rfl] | rw [if_pos trivial] | rw [if_neg (by omega)])
  rw [List.take_of_length_le (by omega), List.map_append]; rfl
 have hci : i = 3 := by have := of_decide_eq_false hb; omega
 subst hci
 refine ax ?_
 apply hK1
 refine rg zs [0] ?_
 refine ar ?_
 exact ⟨_, rfl, hlow,   .osl b1 (by omega) (by simp [Yb]) (by rw [List.take_of_length_le (show Yb.length ≤ 3 from Nat.le_refl 3), List.drop_zero, List.take_of_length_le (show (Yb.map ZU).length ≤ 3 from Nat.le_refl 3)]; exact XY _ (VP ZU (fun x => kl_rowAV x n) _))⟩
theorem NE61.eqs {P Q : Prop} (g : Imp P Q := by (try simp only [go_sem, seval, List.length_map]); exact M5) : Imp P Q := g
open NE61 NY in
theorem W9 (b : List UInt8) (hb : b.length ≤ 1099511627776) (H : Heap) (n : Nat) : Ret prog 23 [bys b] H n (bys b) H n := by
 have h9 := Qi b hb 0 b.length (Nat.zero_le _) (Nat.le_refl _) H n
 exact kbY
theorem NE62.eqs {P Q : Prop} (g : Imp P Q := by (try simp only [go_sem, seval, hsz, hag, hmo, Ze, ZC, bys, List.length_map, Int.toNat_natCast]); exact M5) : Imp P Q := g
theorem NE62.sd {P : Prop} (g : P := by first | exact ⟨.inr trivial, om, om⟩ | fail) : P := g
set_option maxHeartbeats 1600000 in
open NE62 NZ in
theorem MM (q : QryE) (hq : q.fine) (H : Heap) (n : Nat) : Ret prog 32 [Ze q] H n (Ze q) H n := by
 have hsz : (Ze q).sz = 10 := ZP q
 have hag : (Ze q).isAgg = true := rfl
 have hmo : (Ze q).memOK = true := rfl
 have h1 := hq.frm
 have h2 := hq.to
 have h3 := hq.pre
 have h4 := hq.token
 have h5 := hq.fams
 refine Ret.fin ?_
 refine fw func32 ntmps32 results32 ?_
 refine rg zs [1, 2] ?_
 refine rk zs [1, 2] fun K V => ?_
 refine ck func23 ((W9 q.frm om _ _)) ?_
 refine kas ?_
 refine rk zs [1, 2] fun K V => ?_
 refine ck func23 ((W9 q.to om _ _)) ?_
 refine kas ?_
 refine rk zs [1, 2] fun K V => ?_
 refine ck func23 ((W9 q.pre om _ _)) ?_
 refine kas ?_
 refine rk zs [1, 2] fun K V => ?_
 refine ck func23 ((W9 q.token om _ _)) ?_
 refine kas ?_
 refine rg zs [1, 2, 3] ?_
 refine rg zs [1, 2] ?_
 refine kal ?_
 exact ⟨_, rfl, fun k hk => oh, .kl (kl_qry q _)⟩
def q0 : QryE := { frm := [], to := [], fams := [], pre := [], time := 0, n := 1, rows := 2, rev := false, whr := [118, 97, 108, 117, 101, 32, 61, 32, 34, 49, 34], token := [] }
def pg0 : PgE := (runE twoF q0 9 (some (Yb, 0))).1
def q1 : QryE := { q0 with token := pg0.token }
def pg1 : PgE := (runE twoF q1 99 (some (Yb.drop 2, 0))).1
theorem st1 : (runE twoF q0 9 (some (Yb, 0))).2.2 = 0 ∧ pg0.rows.length = 2 ∧ (pg0.rows.getD 0 default).cells.length = 1 ∧ pg0.done = false ∧ pg0.token.length ≠ 0 ∧ pg0.token.length ≤ 1000 := by decide +kernel
theorem st2 : Yv q1 = ([114, 50, 0], true, 0) := by decide +kernel
theorem st3 : (runE twoF q1 99 (some (Yb.drop 2, 0))).2.2 = 0 ∧ pg1.rows.length = 1 ∧ pg1.done = true ∧ pg1.token = [] := by decide +kernel
theorem q0_fine : q0.fine := ⟨odc, odc, odc, odc, odc, odc⟩
theorem q1_fine : q1.fine := ⟨odc, odc, odc, odc, odc, by have := st1.2.2.2.2.2; show pg0.token.length ≤ _; omega⟩
theorem Jp : U4 Yb := ⟨odc, fun x hx => by simp only [Yb, List.mem_cons, List.not_mem_nil, or_false] at hx; rcases hx with rfl | rfl | rfl <;> refine ⟨odc, odc, fun c hc => ?_⟩ <;> simp only [Wm, List.mem_cons, List.not_mem_nil, or_false] at hc <;> rcases hc with rfl | rfl <;> decide⟩
theorem U4.drop {l : List RowE} (h : U4 l) (k : Nat) : U4 (l.drop k) := ⟨by rw [List.length_drop]; have := h.1; omega, fun x hx => h.2 x (List.mem_of_mem_drop hx)⟩
theorem cq_two (H : Heap) : JR prog (.fn (.func 14) [] []) [] H (Zi twoF) := fun m => Zo func14 rfl rfl rfl (Ql H m) ⟨rfl, rfl, rfl⟩
theorem cq_plain (H : Heap) : JR prog (.fn (.func 17) [] []) [] H (.sl 2 (Yb.map ZU)) := fun m => Zo func17 rfl rfl rfl (V7 H m) ⟨rfl, rfl, rfl⟩
theorem ret_start (q : QryE) (hq : q.fine) {r : List UInt8 × Bool × Int} (hr : Yv q = r) {H : Heap} {n : Nat} (hG : GOK 1 1 H n) : Ret prog 24 [Ze q] H n (.tup [bys r.1, .bool r.2.1, .int .i64 r.2.2]) H n := by
 have := VY hq hG (QL.ro q H)
 unfold YE at this
 rw [hr] at this
 exact this
theorem NE70.eqs {P Q : Prop} (g : Imp P Q := by (try simp only [go_sem, seval, hszq, hagq, hmoq, hszp, hagp, hmop, b1, b2, g1, g2, g3, s2, s3, s4, u2, u3, u4, hn0, pgAV, ZU, bys, Nat.add_assoc, List.length_map, Int.toNat_natCast]); exact M5) : Imp P Q := g
theorem NE70.sd {P : Prop} (g : P := by first | ((repeat' apply And.intro) <;> first | (intro d hd; cases hd; exact cq_two _) | (intro d hd; cases hd; exact cq_plain _) | (intro g; trivial) | (intro g; rfl)) | exact ⟨1, rfl, rfl⟩ | fail) : P := g
set_option maxRecDepth 100000 in
set_option maxHeartbeats 3200000 in
open NE70 NZ in
theorem KX (H : Heap) (n : Nat) (hG : GOK 1 1 H n) : Ret prog 31 [] H n (.bool true) H n := by
 have hszq : ∀ q, (Ze q).sz = 10 := ZP
 have hagq : ∀ q, (Ze q).isAgg = true := fun _ => rfl
 have hmoq : ∀ q, (Ze q).memOK = true := fun _ => rfl
 have hszp : ∀ p, (pgAV p).sz = 3 := fun _ => rfl
 have hagp : ∀ p, (pgAV p).isAgg = true := fun _ => rfl
 have hmop : ∀ p, (pgAV p).memOK = true := fun _ => rfl
 have hg1 := hG.gek
 have hg2 := hG.get
 obtain ⟨s1, s2, s3, s4, s5, s6⟩ := st1
 obtain ⟨u1, u2, u3, u4⟩ := st3
 have hn0 : nth (pg0.rows.map ZU) 0 = ZU (pg0.rows.getD 0 default) := Zy ZU _ 0 om
 have b1 := hG
 have b2 := hG
 have g1 : (n = n + 1) = False := osi
 have g2 : (n = n + 2) = False := osi
 have g3 := hG
 refine Ret.fin ?_
 refine fw func31 ntmps31 results31 ?_
 refine rg zs [] ?_
 refine rg zs [1] ?_
 refine MN n (els' := [Ze q0]) (M3 _ _ _) ⟨Wk.agg ⟨Wk.nilsl 1, Wk.nilsl 1, Wk.nilsl 1, Wk.nilsl 1, .refl _, .refl _, .refl _, .refl _, .refl _, Wk.nilsl 1, trivial⟩, trivial⟩ ?_
 refine awp_seq_j (fun T' H' n' => ∃ kp : Nat, T' = tl [(1, .loc n 0 0 0 []), (2, .loc kp 0 0 0 []), (3, .int .i64 0)] ∧ H' n = some (.arr 0 10 [Ze q0]) ∧ H' kp = some (.arr 0 3 [pgAV pg0]) ∧ n < kp ∧ kp < n' ∧ ∀ k, k < n → H' k = H k) ?_ ?_
 ·refine awp_tree1 rfl zs [1, 2, 3] 10 [.c, .q, .c, .q, .w [1], .q, .w [], .m, .q, .q, .w [], .w [9], .q] [0, 1, 2, 3, 4, 5, 6, 7, 8, 9] [11, 12] (.w [0, 1, 2, 3, 5, 8, 9]) [(4, .w [0, 1, 2, 3]), (6, .w [0, 1, 2, 3, 5])] [0, 1, 2, 3, 4, 5, 6, 7, 8, 9, 0, 10, 11] odc (by kernel_rfl) (fun _ _ _ _ _ h => h) fun K V => ?_
  refine nz ?_
  refine cq func14 (fun _ n => (Ql _ _)) ?_
  refine cq func17 (fun _ n => (V7 _ _)) ?_
  refine And.intro ?_ ?_
  ·refine nz ?_
   refine Zp (args' := [Zi twoF, Ze q0, .int .i64 9, .iface 52 (.loc _ 0 0 0 [])]) func18 rfl rfl rfl ((Wy twoF odc q0 q0_fine 9 Yb 0 Jp _ ?_ ?_)) ?_ ?_
   ·exact hG.on (fun k hk => oh) om
   ·refine ohx ?_; rfl
   rotate_left
   ·exact kb4
   intro rr H1 n1 hc
   obtain ⟨hn1, hlo1, hr⟩ := hc
   rw [s1, show (runE twoF q0 9 (some (Yb, 0))).1 = pg0 from rfl] at hr
   cases hr
   have g3 : (n = n1) = False := oz
   have b2 : H1 n = some (.arr 0 10 [Ze q0]) := (hlo1 _ om om).trans oh
   have b1 : H1 (n + 1) = some (.arr 0 3 [.agg [.nilsl, .nilsl, .bool false]]) := (hlo1 _ om om).trans oh
   exact kak
  refine nz ?_
  refine And.intro ?_ ?_
  ·refine nz ?_
   refine Zp (args' := [Zi twoF, Ze q0, .int .i64 9, .iface 52 (.loc _ 0 0 0 [])]) func18 rfl rfl rfl ((Wy twoF odc q0 q0_fine 9 Yb 0 Jp _ ?_ ?_)) ?_ ?_
   ·exact hG.on (fun k hk => oh) om
   ·refine ohx ?_; rfl
   rotate_left
   ·exact kb4
   intro rr H1 n1 hc
   obtain ⟨hn1, hlo1, hr⟩ := hc
   rw [s1, show (runE twoF q0 9 (some (Yb, 0))).1 = pg0 from rfl] at hr
   cases hr
   have g3 : (n = n1) = False := oz
   have b2 : H1 n = some (.arr 0 10 [Ze q0]) := (hlo1 _ om om).trans oh
   have b1 : H1 (n + 2) = some (.arr 0 3 [.agg [.nilsl, .nilsl, .bool false]]) := (hlo1 _ om om).trans oh
   exact kak
  refine nz ?_
  refine Zp (args' := [Zi twoF, Ze q0, .int .i64 9, .iface 52 (.loc _ 0 0 0 [])]) func18 rfl rfl rfl ((Wy twoF odc q0 q0_fine 9 Yb 0 Jp _ ?_ ?_)) ?_ ?_
  ·exact hG.on (fun k hk => oh) om
  ·refine ohx ?_; rfl
  rotate_left
  ·exact kb4
  intro rr H1 n1 hc
  obtain ⟨hn1, hlo1, hr⟩ := hc
  rw [s1, show (runE twoF q0 9 (some (Yb, 0))).1 = pg0 from rfl] at hr
  cases hr
  have g3 : (n = n1) = False := oz
  have b2 : H1 n = some (.arr 0 10 [Ze q0]) := (hlo1 _ om om).trans oh
  exact kak
 rintro T9 H1 n1 ⟨kp, rfl, b2, b1, hkp, hkn, hlow1⟩
 refine Za fun K1 hK1 => ?_
 refine rc zs [1, 2, 45] func20 ((XO _ _ _)) ?_
 refine Zb ?_ ?_ <;> intro hb
 ·exact absurd hb (by simp [s5])
 refine kay ?_
 refine rg zs [1, 2] ?_
 refine rk zs [1, 2, 4, 5, 6] fun K V => ?_
 refine ck func24 ((ret_start q1 q1_fine st2 (hG.on (fun k hk => ohx (hlow1 k hk)) om))) ?_
 refine kas ?_
 refine Za fun K2 hK2 => ?_
 refine Zf zs [1, 2, 67] fun K V => ?_
 refine kaY ?_
 repeat refine peel ?_
 refine Zo func20 rfl rfl rfl ((XO _ _ _)) ?_
 refine kaY ?_
 repeat (first | (refine And.intro ?_ ?_; · first | exact ⟨rfl, fun x hx => by simp only [List.mem_cons, List.not_mem_nil, or_false] at hx; rcases hx with rfl | rfl | rfl <;> exact ⟨rfl, rfl⟩⟩) | refine peel ?_)
 refine Yt func26 rfl rfl rfl (fun _ => (YZ [114, 50, 0] [114, 50, 0] _ _)) ?_
 refine kaY ?_
 refine kad ?_
 refine Zb ?_ ?_ <;> intro hb
 ·exact kaJ
 refine kaQ ?_
 refine ZB (fun H' n' => H' n = some (.arr 0 10 [Ze q1]) ∧ H' kp = some (.arr 0 3 [pgAV pg0]) ∧ (∀ k, k < n → H' k = H k) ∧ n' = n1) ⟨ohr, ohx b1, fun k hk => ohx (hlow1 k hk), rfl⟩ fun H2 n2 ⟨b2, b1, hlow2, hn2⟩ => ?_
 subst hn2
 have f9 : (n = n2) = False := oz
 have hpl : Yb.length = 3 := rfl
 have hS2 := U4.drop Jp 2
 refine WH rfl zs [2, 3] [.c, .q, .c, .q, .q, .w [1], .q, .w [], .m, .q, .q, .w [10], .q] [0, 1, 2, 3, 4, 5, 6, 7, 8, 9, 10, 11, 12] [0, 1, 2, 3, 4, 5, 6, 7, 8, 9, 10, 11, 12] (by kernel_rfl) (fun _ _ _ _ _ h => h) fun K V => ?_
 refine kao ?_
 repeat refine peel ?_
 refine Yo func14 rfl rfl rfl (fun _ n => (Ql _ _)) ?_
 refine kao ?_
 repeat refine peel ?_
 refine Yo func17 rfl rfl rfl (fun _ n => (V7 _ _)) ?_
 refine kao ?_
 repeat (first | (refine And.intro ?_ ?_; · first | exact ⟨1, rfl, rfl⟩) | refine peel ?_)
 refine cK func18 ((Wy (H := H2.put n2 (some (srcN (Yb.drop 2) 0))) (n := n2 + 1) twoF odc q1 q1_fine 99 (Yb.drop 2) 0 hS2 n2 (hG.on (fun k hk => ohx (hlow2 k hk)) om) oh)) ?_ ?_
 ·exact kb4
 intro rr H3 n3 hc
 obtain ⟨hn3, hlo3, hr⟩ := hc
 rw [u1, show (runE twoF q1 99 (some (Yb.drop 2, 0))).1 = pg1 from rfl] at hr
 cases hr
 have b1 : H3 kp = some (.arr 0 3 [pgAV pg0]) := (hlo3 _ om om).trans (ohx b1)
 have hlow3 : ∀ k, k < n → H3 k = H k := fun k hk => (hlo3 k om om).trans (ohx (hlow2 k hk))
 refine kao ?_
 refine kad ?_
 refine rc zs [0] func20 ((XO _ _ _)) ?_
 refine ar ?_
 refine ⟨_, rfl, fun k hk => ohx (hlow3 k hk), Frz.eq osi trivial⟩
structure ChkS (fs : List Fml) (q : QryE) (H0 : Heap) (n : Nat) (H : Heap) (m : Nat) : Prop where
 c1 : H n = some (.arr 0 1 [Zi fs])
 c2 : H (n + 1) = some (.arr 0 10 [Ze q])
 c3 : H (n + 2) = some (.arr 0 10 [Ze q])
 lo : ∀ k, k < n → H k = H0 k
 lt : n + 3 ≤ m
theorem ChkS.on {fs : List Fml} {q : QryE} {H0 : Heap} {n : Nat} {H : Heap} {m : Nat} (h : ChkS fs q H0 n H m) {H' : Heap} {m' : Nat} (hH : ∀ k, k < n + 3 → H' k = H k) (hm : n + 3 ≤ m') : ChkS fs q H0 n H' m' :=
 ⟨(hH _ om).trans h.c1, (hH _ om).trans h.c2, (hH _ om).trans h.c3, fun k hk => (hH k om).trans (h.lo k hk), hm⟩
theorem NF10.eqs {P Q : Prop} (g : Imp P Q := by (try simp only [go_sem, seval, hszs, hags, hmos, hszq, hagq, hmoq, f1, f2, f3, b1, b2, b3, b5, c1, c2, c3, g1, g2, g3, YE, Nat.add_assoc, List.length_map, Int.toNat_natCast, Option.getD_some, Option.getD_none]); exact M5) : Imp P Q := g
set_option maxRecDepth 100000 in
set_option maxHeartbeats 6400000 in
open NF10 NY in
theorem QQ (fs : List Fml) (hfs : fs.length ≤ 1048576) (q : QryE) (hq : q.fine) (ht : -9223372036854775808 ≤ q.time ∧ q.time < 9223372036854775808) (clock : Int) (H : Heap) (n : Nat) (hG : GOK 1 1 H n) :
   Ret prog 4 [Zi fs, Ze q, .int .i64 clock] H n (.bool true) H n := by
 have hszs : (Zi fs).sz = 1 := rfl
 have hags : (Zi fs).isAgg = true := rfl
 have hmos : (Zi fs).memOK = true := rfl
 have hszq : (Ze q).sz = 10 := ZP q
 have hagq : (Ze q).isAgg = true := rfl
 have hmoq : (Ze q).memOK = true := rfl
 have f1 : (n = n + 1) = False := osi
 have f2 : (n = n + 2) = False := osi
 have f3 : (n + 1 = n + 2) = False := osi
 have b1 := hszs
 have b2 := hszs
 have b3 := hszs
 have b5 := hszs
 have c1 := hszs
 have c2 := hszs
 have c3 := hszs
 have g1 := hszs
 have g2 := hszs
 have g3 := hszs
 refine Ret.fin ?_
 refine fw func4 ntmps4 results4 ?_
 refine rg zs [2, 3, 4] ?_
 refine rc zs [2, 3, 7] func32 ((MM q hq _ _)) ?_
 refine ZB (fun H' n' => ChkS fs q H n H' n') ⟨ohr, oh, oh, fun k hk => oh, om⟩ fun H0 n0 hS0 => ?_
 have c1 := hS0.c1; have c2 := hS0.c2; have c3 := hS0.c3
 refine rk zs [2, 3, 7, 8] fun K V => ?_
 refine cK func33 (Uo q hq _ _) ?_ ?_
 ·intro p H' n' hc; obtain ⟨_, _, k1, k2, k3, k4, kw, kf, vf, hr, _⟩ := hc; cases hr
 intro rr H1 n1 hc
 obtain ⟨hn1, hlo1, k1, k2, k3, k4, kw, kf, vf, hr, hL, hLk⟩ := hc
 cases hr
 have hlt := hS0.lt
 have b1 : (Yc q k1 k2 k3 k4 kw kf vf).sz = 12 := rfl
 have b2 : (Yc q k1 k2 k3 k4 kw kf vf).memOK = true := rfl
 have b3 : (Yc q k1 k2 k3 k4 kw kf vf).isAgg = true := rfl
 refine nz ?_
 apply V; clear V K
 refine ZB (fun H' n' => ChkS fs q H n H' n' ∧ LdS q k1 k2 k3 k4 kw kf vf H' ∧ H' n1 = some (.arr 0 12 [Yc q k1 k2 k3 k4 kw kf vf]) ∧ n' = n1 + 1) ⟨hS0.on (fun k hk => ohx (hlo1 k om)) om, hL.on (fun k hk => by have := hLk k hk; exact oh), oh, rfl⟩ fun H3 n3 ⟨hS3, hL3, b5, hn3⟩ => ?_
 subst hn3
 have c1 := hS3.c1; have c2 := hS3.c2; have c3 := hS3.c3
 have hG3 : GOK 1 1 H3 (n1 + 1) := hG.on (fun k hk => hS3.lo k hk) om
 refine Zf zs [2, 3, 7, 8, 9] fun K V => ?_
 try simp only [go_sem, seval, hszs, hags, hmos, hszq, hagq, hmoq, f1, f2, f3, b1, b2, b3, b5, c1, c2, c3, g1, g2, g3, YE, Nat.add_assoc, List.length_map, Int.toNat_natCast, Option.getD_some, Option.getD_none, Yc, UO]
 repeat (first | (refine And.intro ?_ ?_; · first | exact ⟨rfl, rfl⟩) | refine peel ?_)
 refine Zo func34 rfl rfl rfl ((QW fs hfs hq hG3 hL3.ql)) ?_
 try simp only [go_sem, seval, hszs, hags, hmos, hszq, hagq, hmoq, f1, f2, f3, b1, b2, b3, b5, c1, c2, c3, g1, g2, g3, YE, Nat.add_assoc, List.length_map, Int.toNat_natCast, Option.getD_some, Option.getD_none, Yc, UO]
 repeat refine peel ?_
 apply V; clear V K
 refine rk zs [2, 3, 7, 9, 10] fun K V => ?_
 refine cK func35 ((XR q hq k1 k2 k3 k4 kw kf vf H3 (n1 + 1) hL3 (fun k hk => by have := hLk k hk; omega))) ?_ ?_
 ·intro p H' n' hc; obtain ⟨_, _, hr⟩ := hc; cases hr
 intro rr H4 n4 hc
 obtain ⟨hn4, hlo4, hr⟩ := hc
 cases hr
 refine nz ?_
 apply V; clear V K
 have hS0 : ChkS fs q H n H4 n4 := hS3.on (fun k hk => hlo4 k om (by have := hLk k1 osi; omega) (by have := hLk k2 osi; omega) (by have := hLk k3 osi; omega) (by have := hLk k4 osi; omega) (by have := hLk kf osi; omega)) om
 refine ZB (fun H' n' => ChkS fs q H n H' n') hS0 fun H0 n0 hS0 => ?_
 have c1 := hS0.c1; have c2 := hS0.c2; have c3 := hS0.c3
 refine rk zs [2, 3, 7, 9, 10, 11] fun K V => ?_
 refine cK func33 (Uo q hq _ _) ?_ ?_
 ·intro p H' n' hc; obtain ⟨_, _, k1, k2, k3, k4, kw, kf, vf, hr, _⟩ := hc; cases hr
 intro rr H1 n1 hc
 obtain ⟨hn1, hlo1, k1, k2, k3, k4, kw, kf, vf, hr, hL, hLk⟩ := hc
 cases hr
 have hlt := hS0.lt
 have b1 : (Yc q k1 k2 k3 k4 kw kf vf).sz = 12 := rfl
 have b2 : (Yc q k1 k2 k3 k4 kw kf vf).memOK = true := rfl
 have b3 : (Yc q k1 k2 k3 k4 kw kf vf).isAgg = true := rfl
 refine nz ?_
 apply V; clear V K
 refine ZB (fun H' n' => ChkS fs q H n H' n' ∧ LdS q k1 k2 k3 k4 kw kf vf H' ∧ H' n1 = some (.arr 0 12 [Yc q k1 k2 k3 k4 kw kf vf]) ∧ n' = n1 + 1) ⟨hS0.on (fun k hk => ohx (hlo1 k om)) om, hL.on (fun k hk => by have := hLk k hk; exact oh), oh, rfl⟩ fun H3 n3 ⟨hS3, hL3, b5, hn3⟩ => ?_
 subst hn3
 have c1 := hS3.c1; have c2 := hS3.c2; have c3 := hS3.c3
 have hG3 : GOK 1 1 H3 (n1 + 1) := hG.on (fun k hk => hS3.lo k hk) om
 refine Zf zs [2, 3, 7, 9, 10, 11, 12, 13, 14] fun K V => ?_
 try simp only [go_sem, seval, hszs, hags, hmos, hszq, hagq, hmoq, f1, f2, f3, b1, b2, b3, b5, c1, c2, c3, g1, g2, g3, YE, Nat.add_assoc, List.length_map, Int.toNat_natCast, Option.getD_some, Option.getD_none, Yc, UO]
 repeat (first | (refine And.intro ?_ ?_; · first | exact ⟨rfl, rfl⟩) | refine peel ?_)
 refine Zo func24 rfl rfl rfl ((VY hq hG3 hL3.ql)) ?_
 try simp only [go_sem, seval, hszs, hags, hmos, hszq, hagq, hmoq, f1, f2, f3, b1, b2, b3, b5, c1, c2, c3, g1, g2, g3, YE, Nat.add_assoc, List.length_map, Int.toNat_natCast, Option.getD_some, Option.getD_none, Yc, UO]
 repeat refine peel ?_
 apply V; clear V K
 refine rk zs [2, 3, 7, 9, 10, 12, 13, 14, 15] fun K V => ?_
 refine cK func35 ((XR q hq k1 k2 k3 k4 kw kf vf H3 (n1 + 1) hL3 (fun k hk => by have := hLk k hk; omega))) ?_ ?_
 ·intro p H' n' hc; obtain ⟨_, _, hr⟩ := hc; cases hr
 intro rr H4 n4 hc
 obtain ⟨hn4, hlo4, hr⟩ := hc
 cases hr
 refine nz ?_
 apply V; clear V K
 have hS0 : ChkS fs q H n H4 n4 := hS3.on (fun k hk => hlo4 k om (by have := hLk k1 osi; omega) (by have := hLk k2 osi; omega) (by have := hLk k3 osi; omega) (by have := hLk k4 osi; omega) (by have := hLk kf osi; omega)) om
 refine ZB (fun H' n' => ChkS fs q H n H' n') hS0 fun H0 n0 hS0 => ?_
 have c1 := hS0.c1; have c2 := hS0.c2; have c3 := hS0.c3
 refine rk zs [2, 3, 7, 9, 10, 12, 13, 14, 15, 16] fun K V => ?_
 refine cK func33 (Uo q hq _ _) ?_ ?_
 ·intro p H' n' hc; obtain ⟨_, _, k1, k2, k3, k4, kw, kf, vf, hr, _⟩ := hc; cases hr
 intro rr H1 n1 hc
 obtain ⟨hn1, hlo1, k1, k2, k3, k4, kw, kf, vf, hr, hL, hLk⟩ := hc
 cases hr
 have hlt := hS0.lt
 have b1 : (Yc q k1 k2 k3 k4 kw kf vf).sz = 12 := rfl
 have b2 : (Yc q k1 k2 k3 k4 kw kf vf).memOK = true := rfl
 have b3 : (Yc q k1 k2 k3 k4 kw kf vf).isAgg = true := rfl
 refine nz ?_
 apply V; clear V K
 refine ZB (fun H' n' => ChkS fs q H n H' n' ∧ LdS q k1 k2 k3 k4 kw kf vf H' ∧ H' n1 = some (.arr 0 12 [Yc q k1 k2 k3 k4 kw kf vf]) ∧ n' = n1 + 1) ⟨hS0.on (fun k hk => ohx (hlo1 k om)) om, hL.on (fun k hk => by have := hLk k hk; exact oh), oh, rfl⟩ fun H3 n3 ⟨hS3, hL3, b5, hn3⟩ => ?_
 subst hn3
 have c1 := hS3.c1; have c2 := hS3.c2; have c3 := hS3.c3
 have hG3 : GOK 1 1 H3 (n1 + 1) := hG.on (fun k hk => hS3.lo k hk) om
 refine Zf zs [2, 3, 7, 9, 10, 12, 13, 14, 15, 16, 17, 18] fun K V => ?_
 try simp only [go_sem, seval, hszs, hags, hmos, hszq, hagq, hmoq, f1, f2, f3, b1, b2, b3, b5, c1, c2, c3, g1, g2, g3, YE, Nat.add_assoc, List.length_map, Int.toNat_natCast, Option.getD_some, Option.getD_none, Yc, UO]
 repeat (first | (refine And.intro ?_ ?_; · first | exact ⟨rfl, rfl⟩) | refine peel ?_)
 refine Zo func36 rfl rfl rfl ((Mc hq clock hG3 hL3.ql)) ?_
 try simp only [go_sem, seval, hszs, hags, hmos, hszq, hagq, hmoq, f1, f2, f3, b1, b2, b3, b5, c1, c2, c3, g1, g2, g3, YE, Nat.add_assoc, List.length_map, Int.toNat_natCast, Option.getD_some, Option.getD_none, Yc, UO]
 repeat refine peel ?_
 apply V; clear V K
 refine rk zs [2, 3, 7, 9, 10, 12, 13, 14, 15, 17, 18, 19] fun K V => ?_
 refine cK func35 ((XR q hq k1 k2 k3 k4 kw kf vf H3 (n1 + 1) hL3 (fun k hk => by have := hLk k hk; omega))) ?_ ?_
 ·intro p H' n' hc; obtain ⟨_, _, hr⟩ := hc; cases hr
 intro rr H4 n4 hc
 obtain ⟨hn4, hlo4, hr⟩ := hc
 cases hr
 refine nz ?_
 apply V; clear V K
 have hS0 : ChkS fs q H n H4 n4 := hS3.on (fun k hk => hlo4 k om (by have := hLk k1 osi; omega) (by have := hLk k2 osi; omega) (by have := hLk k3 osi; omega) (by have := hLk k4 osi; omega) (by have := hLk kf osi; omega)) om
 refine ZB (fun H' n' => ChkS fs q H n H' n') hS0 fun H0 n0 hS0 => ?_
 have c1 := hS0.c1; have c2 := hS0.c2; have c3 := hS0.c3
 have hG0 : GOK 1 1 H0 n0 := hG.on (fun k hk => hS0.lo k hk) (by have := hS0.lt; omega)
 refine rc zs [2, 3, 7, 9, 10, 12, 13, 14, 15, 17, 18, 19, 20, 21, 22] func25 ((c_ref13_Start q hq ht _ _)) ?_
 refine rc zs [3, 7, 9, 10, 12, 13, 14, 15, 17, 18, 19, 20, 21, 22, 23, 24] func37 ((c_ref13_At q hq ht clock _ _)) ?_
 refine Za fun K1 hK1 => ?_
 refine dx zs [117] [.m, .q, .m, .m, .q, .q, .m, .m, .q, .q, .m, .m, .c, .q, .q, .c, .q, .q, .m, .m, .m, .c, .q, .q, .m, .m, .m, .q, .q, .m, .m, .c, .m, .q, .q, .m, .m, .m, .q, .q, .m, .m, .c, .m, .q, .q] [0, 1, 2, 3, 4, 5, 6, 7, 8, 9, 10, 11, 12, 13, 14, 15, 16, 17, 18, 19, 20, 21, 22, 23, 24, 25, 26, 27, 28, 29, 30, 31, 32, 33, 34, 35, 36, 37, 38, 39, 40, 41, 42, 43, 44, 45] [0, 1, 2, 3, 4, 5, 6, 7, 8, 9, 10, 11, 12, 13, 14, 15, 16, 17, 18, 19, 20, 21, 22, 23, 24, 25, 26, 27, 28, 29, 30, 31, 32, 33, 34, 35, 36, 37, 38, 39, 40, 41, 42, 43, 44, 45] fun K V => ?_
 refine cq func20 (fun _ n => (XO _ _ _)) ?_
 refine cq func38 (fun _ n => (c_ref13_Check fs hfs q hq _ _)) ?_
 refine cq func26 (fun _ n => (YZ _ _ _ _)) ?_
 refine cq func20 (fun _ n => (XO _ _ _)) ?_
 refine cq func20 (fun _ n => (XO _ _ _)) ?_
 apply V; clear V K
 refine Zb ?_ ?_ <;> intro hb
 ·exact absurd hb osi
 refine ak ?_
 apply hK1
 refine rc zs [6] func31 ((KX _ _ hG0)) ?_
 refine ar ?_
 refine ⟨_, rfl, fun k hk => hS0.lo k hk, Frz.eq rfl trivial⟩
end Go.Proofs.YtkmkbndcekklmaaGreatDoor