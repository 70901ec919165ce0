/- Own layer: walks through the sameness of the order's document. Of the program; no condition. -/
import Derived.Test.YtifnhpmeoogedaaGreatDoorPH
set_option linter.unusedSimpArgs false
set_option linter.unusedVariables false
namespace Go.Proofs.YtifnhpmeoogedaaGreatDoor
open Go Go.Sx Go.Rt Go.Proofs Tryz
theorem qry_ext (a b : QryE) : a = b ↔ a.frm = b.frm ∧ a.to = b.to ∧ a.fams = b.fams ∧ a.pre = b.pre ∧ a.time = b.time ∧ a.n = b.n ∧ a.rows = b.rows ∧ a.rev = b.rev ∧ a.whr = b.whr ∧ a.token = b.token := by cases a; cases b; simp
theorem KX (a b : CmdE) : a = b ↔ a.kind = b.kind ∧ a.client = b.client ∧ a.serial = b.serial ∧ a.row = b.row ∧ a.conds = b.conds ∧ a.ops = b.ops ∧ a.n = b.n ∧ a.q = b.q := by cases a; cases b; simp
theorem cond_ext (a b : YF) : a = b ↔ a.kind = b.kind ∧ a.fam = b.fam ∧ a.qual = b.qual ∧ a.value = b.value := by cases a; cases b; simp
theorem op_ext (a b : OpE) : a = b ↔ a.kind = b.kind ∧ a.fam = b.fam ∧ a.qual = b.qual ∧ a.ts = b.ts ∧ a.value = b.value ∧ a.delta = b.delta := by cases a; cases b; simp
set_option maxRecDepth 100000 in
set_option maxHeartbeats 3200000 in
theorem Jv (a b : QryE) (ha : a.fams.length ≤ 1048576) (H : Heap) (n : Nat) : Ret prog 80 [Zq a, Zq b] H n (.bool (decide (a = b))) H n := by
 refine Ret.fin ?_
 refine Zc func80 rfl ntmps80 (congrArg Array.toList results80) (by simp) ?_
 simp only [go_sem]
 refine Za zs [2, 3] fun K Y => ?_
 simp only [go_sem, seval, Zq, Zr, bys]
 apply Y; clear Y K
 refine Zb fun K1 hK1 => ?_
 refine Za zs [2, 3, 48] fun K Y => ?_
 simp only [go_sem, seval, List.length_map, Y0]
 repeat (first | refine peel ?_ | (refine And.intro ?_ ?_; · first | exact Y4 _ | exact fun _ => Y4 _))
 apply Y; clear Y K
 refine Ze ?_ ?_ <;> intro hb
 ·have hne : ¬ a = b := fun e => by subst e; simp at hb
  refine Za zs [4] fun K Y => ?_
  simp only [go_sem, seval]
  apply Y; clear Y K
  refine Zf ?_
  simp only [go_sem, seval]
  refine ⟨_, rfl, fun k hk => ?_, Frz.eq ?_ trivial⟩
  ·(repeat rw [if_neg (by omega)])
  ·congr 1; first | (simp [hne]; done) | (rw [Bool.eq_iff_iff, decide_eq_true_eq, qry_ext]; grind)
 have hl : a.fams.length = b.fams.length := by grind
 have hh : a.frm = b.frm ∧ a.to = b.to ∧ a.pre = b.pre ∧ a.token = b.token := by grind
 refine Zd ?_
 simp only [go_sem, seval]
 apply hK1
 clear hK1 K1
 refine Zb fun K2 hK2 => ?_
 refine Za zs [2, 3, 5] fun K Y => ?_
 simp only [go_sem, seval]
 apply Y; clear Y K
 refine Zj ?_
 refine Zz (fun T' H' n' => ∃ i : Nat, i ≤ a.fams.length ∧ T' = tl [(2, .loc n 0 0 0 []), (3, .loc (n + 1) 0 0 0 []), (5, .int .i64 i)] ∧ H' = (H.put n (some (.arr 0 10 [Zq a]))).put (n + 1) (some (.arr 0 10 [Zq b])) ∧ n' = n + 2 ∧ (a.fams.drop i = b.fams.drop i ↔ a.fams = b.fams)) (fun T' _ _ => a.fams.length - iv (T' 5)) ?_ ?_
 ·exact ⟨0, Nat.zero_le _, rfl, rfl, rfl, by simp⟩
 intro T1 H1 n1
 rintro ⟨i, hi, rfl, rfl, rfl, hix⟩
 refine Zb fun K3 hK3 => ?_
 refine Za zs [2, 3, 5, 53] fun K Y => ?_
 simp only [go_sem, seval, Zq, Zr, List.length_map, bys]
 apply Y; clear Y K
 refine Ze ?_ ?_ <;> intro hb
 ·have hlt : i < a.fams.length := by have := of_decide_eq_true hb; omega
  have hlt2 : i < b.fams.length := by omega
  rw [ZZ a.fams i hlt, ZZ b.fams i hlt2, List.cons.injEq] at hix
  have hn1 : nth (a.fams.map fun x => AV.int .i64 x) i = .int .i64 (a.fams.getD i default) := ZF (fun x => AV.int .i64 x) a.fams i hlt
  have hn2 : nth (b.fams.map fun x => AV.int .i64 x) i = .int .i64 (b.fams.getD i default) := ZF (fun x => AV.int .i64 x) b.fams i hlt2
  refine Zd ?_
  simp only [go_sem, seval, Zq, Zr, bys]
  apply hK3
  clear hK3 K3
  refine Zb fun K4 hK4 => ?_
  refine Zj ?_
  refine YJ rfl zs [2, 3, 5, 66] [.q, .q, .m, .q, .q, .q, .q, .m, .q, .q, .q] (by kernel_rfl) (fun _ _ _ _ _ h => h) fun K Y => ?_
  simp only [go_sem, seval, Zq, Zr, List.length_map, bys, Int.toNat_natCast, hn1, hn2]
  repeat refine peel ?_
  apply Y; clear Y K
  refine Ze ?_ ?_ <;> intro hb
  ·have hne : ¬ a = b := fun e => by subst e; simp at hb
   refine Za zs [4] fun K Y => ?_
   simp only [go_sem, seval, Zq, Zr, bys]
   apply Y; clear Y K
   refine Zf ?_
   simp only [go_sem, seval, Zq, Zr, bys]
   refine ⟨_, rfl, fun k hk => ?_, Frz.eq ?_ trivial⟩
   ·(repeat rw [if_neg (by omega)])
   ·congr 1; first | (simp [hne]; done) | (rw [Bool.eq_iff_iff, decide_eq_true_eq, qry_ext]; grind)
  have hx : a.fams.getD i default = b.fams.getD i default := by simp at hb; simpa using hb
  have hnext : (a.fams.drop (i + 1) = b.fams.drop (i + 1)) ↔ a.fams = b.fams := by rw [← hix]; simp only [hx, true_and]
  refine Zd ?_
  simp only [go_sem, seval, Zq, Zr, bys]
  apply hK4
  clear hK4 K4
  refine Zl zs [2, 3, 5] fun K Y => ?_
  simp only [go_sem, seval, Zq, Zr, bys]
  apply Y; clear Y K
  simp only [go_sem, seval, Zq, Zr, bys]
  exact ⟨⟨i + 1, by omega, by rw [w1 (by omega)], hnext⟩, by rw [w1 (by omega)]; simp; omega⟩
 have hge : i = a.fams.length := by have := of_decide_eq_false hb; omega
 have heq : a.fams = b.fams := by rw [← hix, hge, List.drop_length, hl, List.drop_length]
 refine ZA ?_
 simp only [go_sem, seval, Zq, Zr, bys]
 apply hK2
 refine Za zs [4] fun K Y => ?_
 simp only [go_sem, seval]
 repeat refine peel ?_
 apply Y; clear Y K
 refine Zf ?_
 simp only [go_sem, seval]
 refine ⟨_, rfl, fun k hk => ?_, Frz.eq ?_ trivial⟩
 ·(repeat rw [if_neg (by omega)])
 ·congr 1; first | (simp [hne]; done) | (rw [Bool.eq_iff_iff, decide_eq_true_eq, qry_ext]; grind)
set_option maxRecDepth 100000 in
set_option maxHeartbeats 6400000 in
theorem c_ref14_Same (a b : CmdE) (ha : a.fits) (H : Heap) (n : Nat) : Ret prog 28 [Zh a, Zh b] H n (.bool (decide (a = b))) H n := by
 have hsza := Yj a.q
 have hszb := Yj b.q
 have haa : (Zq a.q).isAgg = true := rfl
 have hab : (Zq b.q).isAgg = true := rfl
 have hma : (Zq a.q).memOK = true := rfl
 have hmb : (Zq b.q).memOK = true := rfl
 have hca := ha.conds
 have hoa := ha.ops
 have r1 := hsza
 have r2 := hsza
 refine Ret.fin ?_
 refine Zc func28 rfl ntmps28 (congrArg Array.toList results28) (by simp) ?_
 simp only [go_sem]
 refine Za zs [2, 3] fun K Y => ?_
 simp only [go_sem, seval, Zh, bys, hsza, hszb]
 apply Y; clear Y K
 refine Zb fun K1 hK1 => ?_
 refine Za zs [2, 3, 63] fun K Y => ?_
 simp only [go_sem, seval, List.length_map, Y0]
 repeat (first | refine peel ?_ | refine ⟨by exact fun _ => Y4 _, ?_⟩)
 apply Y; clear Y K
 refine Ze ?_ ?_ <;> intro hb
 ·have hne : ¬ a = b := fun e => by subst e; simp at hb
  refine Za zs [4] fun K Y => ?_
  simp only [go_sem, seval]
  apply Y; clear Y K
  refine Zf ?_
  simp only [go_sem, seval]
  refine ⟨_, rfl, fun k hk => ?_, Frz.eq ?_ trivial⟩
  ·(repeat rw [if_neg (by omega)])
   try exact hlow k hk
  ·congr 1; first | (simp [hne]; done) | (rw [Bool.eq_iff_iff, decide_eq_true_eq, decide_eq_true_eq, KX]; grind)
 have hl : a.conds.length = b.conds.length ∧ a.ops.length = b.ops.length := by grind
 have hh : a.kind = b.kind ∧ a.client = b.client ∧ a.serial = b.serial ∧ a.row = b.row ∧ a.n = b.n := by grind
 refine Zd ?_
 simp only [go_sem, seval]
 apply hK1
 clear hK1 K1
 refine Zb fun K2 hK2 => ?_
 refine Za zs [2, 3, 5] fun K Y => ?_
 simp only [go_sem, seval]
 apply Y; clear Y K
 refine Zj ?_
 refine Zz (fun T' H' n' => ∃ i : Nat, i ≤ a.conds.length ∧ T' = tl [(2, .loc n 0 0 0 []), (3, .loc (n + 1) 0 0 0 []), (5, .int .i64 i)] ∧ H' n = some (.arr 0 17 [Zh a]) ∧ H' (n + 1) = some (.arr 0 17 [Zh b]) ∧ (∀ k, k < n → H' k = H k) ∧ n + 2 ≤ n' ∧ (a.conds.drop i = b.conds.drop i ↔ a.conds = b.conds)) (fun T' _ _ => a.conds.length - iv (T' 5)) ?_ ?_
 ·exact ⟨0, Nat.zero_le _, rfl, by simp [Heap.put, Zh, bys], by simp [Heap.put, Zh, bys], fun k hk => by simp only [MF]; (repeat rw [if_neg (by omega)]), by omega, by simp⟩
 intro T1 H1 n1
 rintro ⟨i, hi, rfl, r1, r2, hlow, hnn, hix⟩
 refine Zb fun K3 hK3 => ?_
 refine Za zs [2, 3, 5, 68] fun K Y => ?_
 simp only [go_sem, seval, Zh, List.length_map, bys, r1]
 apply Y; clear Y K
 refine Ze ?_ ?_ <;> intro hb
 ·have hlt : i < a.conds.length := by have := of_decide_eq_true hb; omega
  have hlt2 : i < b.conds.length := by omega
  rw [ZZ a.conds i hlt, ZZ b.conds i hlt2, List.cons.injEq] at hix
  have hn1 : nth (a.conds.map Zu) i = Zu (a.conds.getD i default) := ZF Zu a.conds i hlt
  have hn2 : nth (b.conds.map Zu) i = Zu (b.conds.getD i default) := ZF Zu b.conds i hlt2
  have e1 : (n1 = n) = False := by simp; omega
  have e1' : (n = n1) = False := by simp; omega
  have e2 : (n1 = n + 1) = False := by simp; omega
  have e2' : (n + 1 = n1) = False := by simp; omega
  have e3 : (n1 + 1 = n) = False := by simp; omega
  have e3' : (n = n1 + 1) = False := by simp; omega
  have e4' : (n1 = n) = False := by simp; omega
  have hxx : ∀ x y : YF, (Zu x).sz = (Zu y).sz := fun _ _ => rfl
  refine Zd ?_
  simp only [go_sem, seval, Zh, bys]
  apply hK3
  clear hK3 K3
  refine Zb fun K4 hK4 => ?_
  refine Zj ?_
  refine Za zs [2, 3, 5, 6] fun K Y => ?_
  simp only [go_sem, seval, Zh, List.length_map, bys, r1, Int.toNat_natCast, hn1, Zu]
  repeat refine peel ?_
  apply Y; clear Y K
  refine Za zs [2, 3, 5, 6, 7] fun K Y => ?_
  simp only [go_sem, seval, Zh, List.length_map, bys, r2, Int.toNat_natCast, hn2, Zu, e2']
  repeat refine peel ?_
  apply Y; clear Y K
  refine Za zs [2, 3, 5, 110] fun K Y => ?_
  simp only [go_sem, seval, Zh, Y0, bys]
  repeat (first | refine peel ?_ | refine ⟨by exact fun _ => Y4 _, ?_⟩)
  apply Y; clear Y K
  refine Ze ?_ ?_ <;> intro hb
  ·have hne : ¬ a = b := fun e => by subst e; simp at hb
   refine Za zs [4] fun K Y => ?_
   simp only [go_sem, seval, Zh, bys]
   apply Y; clear Y K
   refine Zf ?_
   simp only [go_sem, seval, Zh, bys]
   refine ⟨_, rfl, fun k hk => ?_, Frz.eq ?_ trivial⟩
   ·(repeat rw [if_neg (by omega)])
    try exact hlow k hk
   ·congr 1; first | (simp [hne]; done) | (rw [Bool.eq_iff_iff, decide_eq_true_eq, decide_eq_true_eq, KX]; grind)
  have hx : a.conds.getD i default = b.conds.getD i default := by rw [cond_ext]; grind
  have hnext : (a.conds.drop (i + 1) = b.conds.drop (i + 1)) ↔ a.conds = b.conds := by rw [← hix]; simp only [hx, true_and]
  refine Zd ?_
  simp only [go_sem, seval, Zh, bys]
  apply hK4
  clear hK4 K4
  refine Zl zs [2, 3, 5] fun K Y => ?_
  simp only [go_sem, seval, Zh, bys]
  apply Y; clear Y K
  simp only [go_sem, seval, Zh, bys, r1, r2]
  refine ⟨⟨i + 1, by omega, by rw [w1 (by omega)], ?_, ?_, fun k hk => ?_, by omega, hnext⟩, by rw [w1 (by omega)]; simp; omega⟩
  ·simp [Heap.put, e1', e3', r1]
  ·simp [Heap.put, e2', r2]; try omega
  ·(repeat rw [if_neg (by omega)])
   exact hlow k hk
 have hge : i = a.conds.length := by have := of_decide_eq_false hb; omega
 have heq : a.conds = b.conds := by rw [← hix, hge, List.drop_length, hl.1, List.drop_length]
 refine ZA ?_
 simp only [go_sem, seval, Zh, bys]
 apply hK2
 refine Zb fun K5 hK5 => ?_
 refine Za zs [2, 3, 8] fun K Y => ?_
 simp only [go_sem, seval]
 apply Y; clear Y K
 refine Zj ?_
 refine Zz (fun T' H' n' => ∃ i : Nat, i ≤ a.ops.length ∧ T' = tl [(2, .loc n 0 0 0 []), (3, .loc (n + 1) 0 0 0 []), (8, .int .i64 i)] ∧ H' n = some (.arr 0 17 [Zh a]) ∧ H' (n + 1) = some (.arr 0 17 [Zh b]) ∧ (∀ k, k < n → H' k = H k) ∧ n + 2 ≤ n' ∧ (a.ops.drop i = b.ops.drop i ↔ a.ops = b.ops)) (fun T' _ _ => a.ops.length - iv (T' 8)) ?_ ?_
 ·exact ⟨0, Nat.zero_le _, rfl, r1, r2, hlow, hnn, by simp⟩
 intro T1 H1 n1
 rintro ⟨i, hi, rfl, r1, r2, hlow, hnn, hix⟩
 refine Zb fun K6 hK6 => ?_
 refine Za zs [2, 3, 8, 115] fun K Y => ?_
 simp only [go_sem, seval, Zh, List.length_map, bys, r1]
 apply Y; clear Y K
 refine Ze ?_ ?_ <;> intro hb
 ·have hlt : i < a.ops.length := by have := of_decide_eq_true hb; omega
  have hlt2 : i < b.ops.length := by omega
  rw [ZZ a.ops i hlt, ZZ b.ops i hlt2, List.cons.injEq] at hix
  have hn1 : nth (a.ops.map opAV) i = opAV (a.ops.getD i default) := ZF opAV a.ops i hlt
  have hn2 : nth (b.ops.map opAV) i = opAV (b.ops.getD i default) := ZF opAV b.ops i hlt2
  have e1 : (n1 = n) = False := by simp; omega
  have e1' : (n = n1) = False := by simp; omega
  have e2 : (n1 = n + 1) = False := by simp; omega
  have e2' : (n + 1 = n1) = False := by simp; omega
  have e3 : (n1 + 1 = n) = False := by simp; omega
  have e3' : (n = n1 + 1) = False := by simp; omega
  have e4' : (n1 = n) = False := by simp; omega
  have hxx : ∀ x y : OpE, (opAV x).sz = (opAV y).sz := fun _ _ => rfl
  refine Zd ?_
  simp only [go_sem, seval, Zh, bys]
  apply hK6
  clear hK6 K6
  refine Zb fun K7 hK7 => ?_
  refine Zj ?_
  refine Za zs [2, 3, 8, 9] fun K Y => ?_
  simp only [go_sem, seval, Zh, List.length_map, bys, r1, Int.toNat_natCast, hn1, opAV]
  repeat refine peel ?_
  apply Y; clear Y K
  refine Za zs [2, 3, 8, 9, 10] fun K Y => ?_
  simp only [go_sem, seval, Zh, List.length_map, bys, r2, Int.toNat_natCast, hn2, opAV, e2']
  repeat refine peel ?_
  apply Y; clear Y K
  refine Za zs [2, 3, 8, 171] fun K Y => ?_
  simp only [go_sem, seval, Zh, Y0, bys]
  repeat (first | refine peel ?_ | refine ⟨by exact fun _ => Y4 _, ?_⟩)
  apply Y; clear Y K
  refine Ze ?_ ?_ <;> intro hb
  ·have hne : ¬ a = b := fun e => by subst e; simp at hb
   refine Za zs [4] fun K Y => ?_
   simp only [go_sem, seval, Zh, bys]
   apply Y; clear Y K
   refine Zf ?_
   simp only [go_sem, seval, Zh, bys]
   refine ⟨_, rfl, fun k hk => ?_, Frz.eq ?_ trivial⟩
   ·(repeat rw [if_neg (by omega)])
    try exact hlow k hk
   ·congr 1; first | (simp [hne]; done) | (rw [Bool.eq_iff_iff, decide_eq_true_eq, decide_eq_true_eq, KX]; grind)
  have hx : a.ops.getD i default = b.ops.getD i default := by rw [op_ext]; grind
  have hnext : (a.ops.drop (i + 1) = b.ops.drop (i + 1)) ↔ a.ops = b.ops := by rw [← hix]; simp only [hx, true_and]
  refine Zd ?_
  simp only [go_sem, seval, Zh, bys]
  apply hK7
  clear hK7 K7
  refine Zl zs [2, 3, 8] fun K Y => ?_
  simp only [go_sem, seval, Zh, bys]
  apply Y; clear Y K
  simp only [go_sem, seval, Zh, bys, r1, r2]
  refine ⟨⟨i + 1, by omega, by rw [w1 (by omega)], ?_, ?_, fun k hk => ?_, by omega, hnext⟩, by rw [w1 (by omega)]; simp; omega⟩
  ·simp [Heap.put, e1', e3', r1]
  ·simp [Heap.put, e2', r2]; try omega
  ·(repeat rw [if_neg (by omega)])
   exact hlow k hk
 have hge : i = a.ops.length := by have := of_decide_eq_false hb; omega
 have heq2 : a.ops = b.ops := by rw [← hix, hge, List.drop_length, hl.2, List.drop_length]
 refine ZA ?_
 simp only [go_sem, seval, Zh, bys]
 apply hK5
 refine Za zs [4] fun K Y => ?_
 simp only [go_sem, seval, Zh, bys, hsza, hszb, haa, hab, r1, r2]
 refine Zg func80 rfl rfl rfl ((Jv a.q b.q ha.fams _ _)) ?_
 simp only [go_sem, seval]
 apply Y; clear Y K
 refine Zf ?_
 simp only [go_sem, seval]
 refine ⟨_, rfl, fun k hk => ?_, Frz.eq ?_ trivial⟩
 ·(repeat rw [if_neg (by omega)])
  try exact hlow k hk
 ·congr 1; first | (simp [hne]; done) | (rw [Bool.eq_iff_iff, decide_eq_true_eq, decide_eq_true_eq, KX]; grind)
def Y7 (r : RepE) : AV := .agg [.sl 2 (r.rows.map ZO), bys r.token, .bool r.done]
theorem row_ext (a b : RowE) : a = b ↔ a.row = b.row ∧ a.cells = b.cells := by cases a; cases b; simp
theorem cel_ext (a b : CelE) : a = b ↔ a.fam = b.fam ∧ a.qual = b.qual ∧ a.ts = b.ts ∧ a.value = b.value := by cases a; cases b; simp
theorem rep_ext (a b : RepE) : a = b ↔ a.err = b.err ∧ a.held = b.held ∧ a.value = b.value ∧ a.rows = b.rows ∧ a.token = b.token ∧ a.done = b.done := by cases a; cases b; simp
set_option maxRecDepth 100000 in
set_option maxHeartbeats 6400000 in
theorem Kc (a b : RepE) (ha : a.rows.length ≤ 1048576) (hc : ∀ x ∈ a.rows, x.cells.length ≤ 1048576) (H : Heap) (n : Nat) : Ret prog 96 [Y7 a, Y7 b] H n (.bool (decide (a.rows = b.rows ∧ a.token = b.token ∧ a.done = b.done))) H n := by
 have r1 : (0 : Nat) = 0 := rfl
 have r2 := r1
 refine Ret.fin ?_
 refine Zc func96 rfl ntmps96 (congrArg Array.toList results96) (by simp) ?_
 simp only [go_sem]
 refine Za zs [2, 3] fun K Y => ?_
 simp only [go_sem, seval, Y7, bys]
 apply Y; clear Y K
 refine Zb fun K1 hK1 => ?_
 refine Za zs [2, 3, 31] fun K Y => ?_
 simp only [go_sem, seval, List.length_map, Y0]
 repeat (first | refine peel ?_ | refine ⟨by exact fun _ => Y4 _, ?_⟩)
 apply Y; clear Y K
 refine Ze ?_ ?_ <;> intro hb
 ·have hne : ¬ (a.rows = b.rows ∧ a.token = b.token ∧ a.done = b.done) := fun ⟨e1, e2, e3⟩ => by rw [e1, e2, e3] at hb; simp at hb
  refine Za zs [4] fun K Y => ?_
  simp only [go_sem, seval]
  apply Y; clear Y K
  refine Zf ?_
  simp only [go_sem, seval]
  refine ⟨_, rfl, fun k hk => ?_, Frz.eq ?_ trivial⟩
  ·(repeat rw [if_neg (by omega)])
   try exact hlow k hk
  ·congr 1; first | (simp [hne]; done) | (simp [heq, hl.2.1, hl.2.2]; done)
 have hl : a.rows.length = b.rows.length ∧ a.token = b.token ∧ a.done = b.done := by grind
 refine Zd ?_
 simp only [go_sem, seval]
 apply hK1
 clear hK1 K1
 refine Zb fun K2 hK2 => ?_
 refine Za zs [2, 3, 5] fun K Y => ?_
 simp only [go_sem, seval]
 apply Y; clear Y K
 refine Zj ?_
 refine Zz (fun T' H' n' => ∃ i : Nat, i ≤ a.rows.length ∧ T' = tl [(2, .loc n 0 0 0 []), (3, .loc (n + 1) 0 0 0 []), (5, .int .i64 i)] ∧ H' n = some (.arr 0 3 [Y7 a]) ∧ H' (n + 1) = some (.arr 0 3 [Y7 b]) ∧ (∀ k, k < n → H' k = H k) ∧ n + 2 ≤ n' ∧ (a.rows.drop i = b.rows.drop i ↔ a.rows = b.rows)) (fun T' _ _ => a.rows.length - iv (T' 5)) ?_ ?_
 ·exact ⟨0, Nat.zero_le _, rfl, by simp [Heap.put, Y7, bys], by simp [Heap.put, Y7, bys], fun k hk => by simp only [MF]; (repeat rw [if_neg (by omega)]), by omega, by simp⟩
 intro T1 H1 n1
 rintro ⟨i, hi, rfl, r1, r2, hlow, hnn, hix⟩
 refine Zb fun K3 hK3 => ?_
 refine Za zs [2, 3, 5, 36] fun K Y => ?_
 simp only [go_sem, seval, Y7, List.length_map, bys, r1]
 apply Y; clear Y K
 refine Ze ?_ ?_ <;> intro hb
 ·have hlt : i < a.rows.length := by have := of_decide_eq_true hb; omega
  have hlt2 : i < b.rows.length := by omega
  rw [ZZ a.rows i hlt, ZZ b.rows i hlt2, List.cons.injEq] at hix
  have hn1 : nth (a.rows.map ZO) i = ZO (a.rows.getD i default) := ZF ZO a.rows i hlt
  have hn2 : nth (b.rows.map ZO) i = ZO (b.rows.getD i default) := ZF ZO b.rows i hlt2
  have hcx := hc _ (X8 _ hlt)
  generalize a.rows.getD i default = x at *
  generalize b.rows.getD i default = y at *
  refine Zd ?_
  simp only [go_sem, seval, Y7, bys]
  apply hK3
  clear hK3 K3
  refine Zb fun K4 hK4 => ?_
  refine Zj ?_
  refine Zb fun K5 hK5 => ?_
  refine YJ rfl zs [2, 3, 5, 70] [.q, .q, .m, .q, .q, .q, .q, .q, .q, .m, .q, .q, .q, .q, .q, .m, .q, .q, .m, .q, .q, .q, .q, .q, .q, .m, .q, .q, .q, .q, .q, .q] (by kernel_rfl) (fun _ _ _ _ _ h => h) fun K Y => ?_
  simp only [go_sem, seval, Y7, List.length_map, Y0, bys, r1, r2, Int.toNat_natCast, hn1, hn2, ZO]
  repeat (first | refine peel ?_ | refine ⟨by exact Y4 _, ?_⟩)
  apply Y; clear Y K
  refine Ze ?_ ?_ <;> intro hb
  ·have hne : ¬ (a.rows = b.rows ∧ a.token = b.token ∧ a.done = b.done) := fun e => by have e2 := (hix.2 e.1).1; subst e2; simp at hb
   refine Za zs [4] fun K Y => ?_
   simp only [go_sem, seval, Y7, bys]
   apply Y; clear Y K
   refine Zf ?_
   simp only [go_sem, seval, Y7, bys]
   refine ⟨_, rfl, fun k hk => ?_, Frz.eq ?_ trivial⟩
   ·(repeat rw [if_neg (by omega)])
    try exact hlow k hk
   ·congr 1; first | (simp [hne]; done) | (simp [heq, hl.2.1, hl.2.2]; done)
  have hxy : x.row = y.row ∧ x.cells.length = y.cells.length := by grind
  refine Zd ?_
  simp only [go_sem, seval, Y7, bys]
  apply hK5
  clear hK5 K5
  refine Za zs [2, 3, 5, 6] fun K Y => ?_
  simp only [go_sem, seval, Y7, bys]
  apply Y; clear Y K
  refine Zj ?_
  refine Zz (fun T' H' n' => ∃ j : Nat, j ≤ x.cells.length ∧ T' = tl [(2, .loc n 0 0 0 []), (3, .loc (n + 1) 0 0 0 []), (5, .int .i64 i), (6, .int .i64 j)] ∧ H' n = some (.arr 0 3 [Y7 a]) ∧ H' (n + 1) = some (.arr 0 3 [Y7 b]) ∧ (∀ k, k < n → H' k = H k) ∧ n + 2 ≤ n' ∧ (x.cells.drop j = y.cells.drop j ↔ x.cells = y.cells)) (fun T' _ _ => x.cells.length - iv (T' 6)) ?_ ?_
  ·exact ⟨0, Nat.zero_le _, rfl, r1, r2, hlow, hnn, by simp⟩
  intro T1 H1 n1
  rintro ⟨j, hj, rfl, r1, r2, hlow, hnn, hjx⟩
  refine Zb fun K6 hK6 => ?_
  refine Za zs [2, 3, 5, 6, 79] fun K Y => ?_
  simp only [go_sem, seval, Y7, List.length_map, bys, r1, Int.toNat_natCast, hn1, ZO]
  repeat refine peel ?_
  apply Y; clear Y K
  refine Ze ?_ ?_ <;> intro hb
  ·have hjl : j < x.cells.length := by have := of_decide_eq_true hb; omega
   have hjl2 : j < y.cells.length := by omega
   rw [ZZ x.cells j hjl, ZZ y.cells j hjl2, List.cons.injEq] at hjx
   have hm1 : nth (x.cells.map Z7) j = Z7 (x.cells.getD j default) := ZF Z7 x.cells j hjl
   have hm2 : nth (y.cells.map Z7) j = Z7 (y.cells.getD j default) := ZF Z7 y.cells j hjl2
   generalize x.cells.getD j default = u at *
   generalize y.cells.getD j default = v at *
   have e1 : (n1 = n) = False := by simp; omega
   have e1' : (n = n1) = False := by simp; omega
   have e2 : (n1 = n + 1) = False := by simp; omega
   have e2' : (n + 1 = n1) = False := by simp; omega
   have e3 : (n1 + 1 = n) = False := by simp; omega
   have e3' : (n = n1 + 1) = False := by simp; omega
   refine Zd ?_
   simp only [go_sem, seval, Y7, bys]
   apply hK6
   clear hK6 K6
   refine Zb fun K7 hK7 => ?_
   refine Zj ?_
   refine Za zs [2, 3, 5, 6, 7] fun K Y => ?_
   simp only [go_sem, seval, Y7, List.length_map, bys, r1, Int.toNat_natCast, hn1, hm1, ZO, Z7]
   repeat refine peel ?_
   apply Y; clear Y K
   refine Za zs [2, 3, 5, 6, 7, 8] fun K Y => ?_
   simp only [go_sem, seval, Y7, List.length_map, bys, r2, Int.toNat_natCast, hn2, hm2, ZO, Z7, e2']
   repeat refine peel ?_
   apply Y; clear Y K
   refine Za zs [2, 3, 5, 6, 129] fun K Y => ?_
   simp only [go_sem, seval, Y7, Y0, bys]
   repeat (first | refine peel ?_ | refine ⟨by exact fun _ => Y4 _, ?_⟩)
   apply Y; clear Y K
   refine Ze ?_ ?_ <;> intro hb
   ·have hne : ¬ (a.rows = b.rows ∧ a.token = b.token ∧ a.done = b.done) := fun e => by have e2 := (hix.2 e.1).1; subst e2; have e3 := (hjx.2 rfl).1; subst e3; simp at hb
    refine Za zs [4] fun K Y => ?_
    simp only [go_sem, seval, Y7, bys]
    apply Y; clear Y K
    refine Zf ?_
    simp only [go_sem, seval, Y7, bys]
    refine ⟨_, rfl, fun k hk => ?_, Frz.eq ?_ trivial⟩
    ·(repeat rw [if_neg (by omega)])
     try exact hlow k hk
    ·congr 1; first | (simp [hne]; done) | (simp [heq, hl.2.1, hl.2.2]; done)
   have huv : u = v := by rw [cel_ext]; grind
   have hnext : (x.cells.drop (j + 1) = y.cells.drop (j + 1)) ↔ x.cells = y.cells := by rw [← hjx]; simp only [huv, true_and]
   refine Zd ?_
   simp only [go_sem, seval, Y7, bys]
   apply hK7
   clear hK7 K7
   refine Zl zs [2, 3, 5, 6] fun K Y => ?_
   simp only [go_sem, seval, Y7, bys]
   apply Y; clear Y K
   simp only [go_sem, seval, Y7, bys, r1, r2]
   refine ⟨⟨j + 1, by omega, by rw [w1 (by omega)], ?_, ?_, fun k hk => ?_, by omega, hnext⟩, by rw [w1 (by omega)]; simp; omega⟩
   ·simp [Heap.put, e1', e3', r1]
   ·simp [Heap.put, e2', r2]; try omega
   ·(repeat rw [if_neg (by omega)])
    exact hlow k hk
  have hge : j = x.cells.length := by have := of_decide_eq_false hb; omega
  have hce : x.cells = y.cells := by rw [← hjx, hge, List.drop_length, hxy.2, List.drop_length]
  have hxe : x = y := by rw [row_ext]; exact ⟨hxy.1, hce⟩
  have hnx : (a.rows.drop (i + 1) = b.rows.drop (i + 1)) ↔ a.rows = b.rows := by rw [← hix]; simp only [hxe, true_and]
  refine ZA ?_
  simp only [go_sem, seval, Y7, bys]
  apply hK4
  refine Zl zs [2, 3, 5] fun K Y => ?_
  simp only [go_sem, seval, Y7, bys]
  apply Y; clear Y K
  simp only [go_sem, seval, Y7, bys, r1, r2]
  exact ⟨⟨i + 1, by omega, by rw [w1 (by omega)], hlow, hnn, hnx⟩, by rw [w1 (by omega)]; simp; omega⟩
 have hge : i = a.rows.length := by have := of_decide_eq_false hb; omega
 have heq : a.rows = b.rows := by rw [← hix, hge, List.drop_length, hl.1, List.drop_length]
 refine ZA ?_
 simp only [go_sem, seval, Y7, bys]
 apply hK2
 refine Za zs [4] fun K Y => ?_
 simp only [go_sem, seval]
 apply Y; clear Y K
 refine Zf ?_
 simp only [go_sem, seval]
 refine ⟨_, rfl, fun k hk => ?_, Frz.eq ?_ trivial⟩
 ·(repeat rw [if_neg (by omega)])
  try exact hlow k hk
 ·congr 1; first | (simp [hne]; done) | (simp [heq, hl.2.1, hl.2.2]; done)
theorem Jw (a b : RepE) (ha : a.rows.length ≤ 1048576) (hc : ∀ x ∈ a.rows, x.cells.length ≤ 1048576) (H : Heap) (n : Nat) : Ret prog 38 [Zy a, Zy b] H n (.bool (decide (a = b))) H n := by
 refine Ret.fin ?_
 refine Zc func38 rfl ntmps38 (congrArg Array.toList results38) (by simp) ?_
 simp only [go_sem]
 refine Za zs [2, 3] fun K Y => ?_
 simp only [go_sem, seval, Zy, bys]
 apply Y; clear Y K
 refine Zb fun K1 hK1 => ?_
 refine Za zs [2, 3, 23] fun K Y => ?_
 simp only [go_sem, seval]
 repeat refine peel ?_
 apply Y; clear Y K
 refine Ze ?_ ?_ <;> intro hb
 ·have hne : ¬ a = b := fun e => by subst e; simp at hb
  refine Za zs [4] fun K Y => ?_
  simp only [go_sem, seval]
  apply Y; clear Y K
  refine Zf ?_
  simp only [go_sem, seval]
  refine ⟨_, rfl, fun k hk => ?_, Frz.eq ?_ trivial⟩
  ·(repeat rw [if_neg (by omega)])
  ·congr 1; first | (simp [hne]; done) | (rw [Bool.eq_iff_iff, decide_eq_true_eq, decide_eq_true_eq, rep_ext]; grind)
 have hh : a.err = b.err ∧ a.held = b.held ∧ a.value = b.value := by grind
 refine Zd ?_
 simp only [go_sem, seval]
 apply hK1
 clear hK1 K1
 refine Za zs [4] fun K Y => ?_
 simp only [go_sem, seval]
 refine Zg func96 rfl rfl rfl ((Kc a b ha hc _ _)) ?_
 simp only [go_sem, seval]
 apply Y; clear Y K
 refine Zf ?_
 simp only [go_sem, seval]
 refine ⟨_, rfl, fun k hk => ?_, Frz.eq ?_ trivial⟩
 ·(repeat rw [if_neg (by omega)])
 ·congr 1; first | (simp [hne]; done) | (rw [Bool.eq_iff_iff, decide_eq_true_eq, decide_eq_true_eq, rep_ext]; grind)
theorem UB (x lo hi : Int) (H : Heap) (n : Nat) : Ret prog 118 [.int .i64 x, .int .i64 lo, .int .i64 hi] H n (.bool (bout x lo hi)) H n := by
 refine Zc func118 rfl ntmps118 (congrArg Array.toList results118) (by simp) ?_
 simp only [go_sem]
 refine ZE zs [0, 1, 2] ?_
 refine ZE zs [6] ?_
 refine Zf ?_
 simp only [go_sem, seval]
 unfold bout; by_cases h : x < lo <;> simp [h]
theorem c_ref2_name (s : List UInt8) (H : Heap) (n : Nat) : Ret prog 119 [.str s] H n (.bool (Xq s)) H n := by
 refine Zc func119 rfl ntmps119 (congrArg Array.toList results119) (by simp) ?_
 simp only [go_sem]
 refine ZE zs [0] ?_
 refine Zb fun K1 hK1 => ?_
 refine Za zs [0, 8] fun K Y => ?_
 simp only [go_sem, seval]
 refine Zg func118 rfl rfl rfl ((by apply UB <;> first | assumption | omega)) ?_
 apply Y; clear Y K
 refine Ze ?_ ?_ <;> intro hb
 ·have hend : Xq s = false := by unfold Xq; rw [hb]; rfl
  refine ZE zs [2] ?_
  refine Zf ?_
  simp only [go_sem, seval]
  rw [hend]
 have hlen := Wn hb
 have hb8 : bout s.length 1 32 = false := hb
 refine Zd ?_
 simp only [go_sem, seval]
 apply hK1
 clear hK1 K1
 refine Zb fun K2 hK2 => ?_
 refine ZE zs [0, 3] ?_
 refine Zj ?_
 refine Zz (fun T' H' n' => ∃ i : Nat, i ≤ s.length ∧ T' = tl [(0, .str s), (3, .int .i64 i)] ∧ H' = H ∧ n' = n ∧ (s.drop i).all WZ = s.all WZ ∧ (0 < i → XF (s.getD 0 0) = true)) (fun T' _ _ => s.length - iv (T' 3)) ?_ ?_
 ·exact ⟨0, Nat.zero_le _, rfl, rfl, rfl, by simp, fun h => absurd h (by decide)⟩
 intro T1 H1 n1
 rintro ⟨i, hi, rfl, rfl, rfl, hall, hl0⟩
 refine Zb fun K3 hK3 => ?_
 refine ZE zs [0, 3, 12] ?_
 refine Ze ?_ ?_ <;> intro hb
 ·have hlt : i < s.length := by simpa using hb
  rw [ZZ s i hlt, List.all_cons] at hall
  have hg0 : i = 0 → s.getD 0 0 = s.getD i default := fun h => by rw [h]; rfl
  refine Zd ?_
  simp only [go_sem, seval]
  apply hK3
  clear hK3 K3
  refine Zb fun K4 hK4 => ?_
  refine Zj ?_
  refine Za zs [0, 3, 4] fun K Y => ?_
  simp only [go_sem, seval, Int.toNat_natCast]
  repeat refine peel ?_
  apply Y; clear Y K
  generalize hc : s.getD i default = c at *
  have hc0 : s.getD i 0 = c := hc
  refine Za zs [0, 3, 4, 5] fun K Y => ?_
  simp only [go_sem, seval, hc0]
  repeat refine peel ?_
  apply Y; clear Y K
  have hA : (bif decide (97 ≤ (c.toNat : Int)) then decide ((c.toNat : Int) ≤ 122) else false) = XF c := by unfold XF; cases decide (97 ≤ (c.toNat : Int)) <;> rfl
  refine ZE zs [0, 3, 41] ?_
  refine Ze ?_ ?_ <;> intro hb
  ·rw [hA] at hb
   have hend : Xq s = false := by
     by_cases h0 : i = 0
     ·have h1 : XF c = false := by cases h9 : XF c <;> simp_all
      unfold Xq; rw [hg0 h0, h1]; simp
     ·have h2 : WZ c = false := by
        unfold WZ
        have h3 : ((i : Int) == 0) = false := by simp; omega
        rw [h3] at hb
        cases h4 : XF c <;> cases h5 : decide ((c.toNat : Int) < 48) <;> cases h6 : decide (57 < (c.toNat : Int)) <;> cases h7 : ((c.toNat : Int) != 95) <;> simp_all
      rw [h2] at hall
      unfold Xq; rw [← hall]; simp
   refine ZE zs [2] ?_
   refine Zf ?_
   simp only [go_sem, seval]
   rw [hend]
  rw [hA] at hb
  have h2 : WZ c = true := by
    unfold WZ
    cases h3 : ((i : Int) == 0) <;> rw [h3] at hb <;> cases h4 : XF c <;> cases h5 : decide ((c.toNat : Int) < 48) <;> cases h6 : decide (57 < (c.toNat : Int)) <;> cases h7 : ((c.toNat : Int) != 95) <;> simp_all
  have h3 : XF (s.getD 0 0) = true := by
    by_cases h0 : i = 0
    ·rw [hg0 h0]; cases h9 : XF c <;> simp_all
    ·exact hl0 (by omega)
  rw [h2, Bool.true_and] at hall
  refine Zd ?_
  simp only [go_sem, seval]
  apply hK4
  clear hK4 K4
  refine Zl zs [0, 3] fun K Y => ?_
  simp only [go_sem, seval]
  apply Y; clear Y K
  simp only [go_sem, seval]
  exact ⟨⟨i + 1, by omega, by rw [w1 (by omega)], hall, fun _ => h3⟩, by rw [w1 (by omega)]; simp; omega⟩
 have hge : i = s.length := by simp at hb; omega
 have hend : Xq s = true := by
   unfold Xq
   rw [hb8, hl0 (by omega), ← hall, hge]; simp
 refine ZA ?_
 simp only [go_sem, seval]
 apply hK2
 refine ZE zs [2] ?_
 refine Zf ?_
 simp only [go_sem, seval]
 rw [hend]
theorem c_ref2_Family (s : List Fml) (name : List UInt8) (hl : s.length ≤ 1048576) (H : Heap) (n : Nat) : Ret prog 120 [Zt s, .str name] H n (.int .i64 (VH s name 0)) H n := by
 refine Ret.fin ?_
 refine Zc func120 rfl ntmps120 (congrArg Array.toList results120) (by simp) ?_
 simp only [go_sem]
 refine ZE zs [1, 2] ?_
 refine Zb fun K1 hK1 => ?_
 refine ZE zs [1, 2, 5] ?_
 refine Zj ?_
 refine Zz (fun T' H' n' => ∃ i : Nat, i ≤ s.length ∧ T' = tl [(1, .str name), (2, .loc n 0 0 0 []), (5, .int .i64 i)] ∧ H' = H.put n (some (.arr 0 1 [.agg [.sl 3 (s.map XG)]])) ∧ n' = n + 1 ∧ VH (s.drop i) name i = VH s name 0) (fun T' _ _ => s.length - iv (T' 5)) ?_ ?_
 ·exact ⟨0, Nat.zero_le _, rfl, rfl, rfl, rfl⟩
 intro T1 H1 n1
 rintro ⟨i, hi, rfl, rfl, rfl, hix⟩
 refine Zb fun K2 hK2 => ?_
 refine ZE zs [1, 2, 5, 10] ?_
 refine Ze ?_ ?_ <;> intro hb
 ·have hlt : i < s.length := by simpa using hb
  rw [ZZ s i hlt, VH] at hix
  have hnth : nth (s.map XG) i = XG (s.getD i default) := ZF XG s i hlt
  refine Zd ?_
  simp only [go_sem, seval]
  apply hK2
  clear hK2 K2
  refine Zb fun K3 hK3 => ?_
  refine Zj ?_
  refine Za zs [1, 2, 5, 20] fun K Y => ?_
  simp only [go_sem, seval, Int.toNat_natCast, hnth]
  repeat refine peel ?_
  apply Y; clear Y K
  refine Ze ?_ ?_ <;> intro hb
  ·have he : (s.getD i default).name = name := by simpa using hb
   rw [if_pos he] at hix
   refine ZE zs [4] ?_
   refine Zf ?_
   simp only [go_sem, seval]
   refine ⟨_, rfl, ?_, Frz.eq ?_ trivial⟩
   ·intro k hk; have h0 : k ≠ n := by omega
    simp [Heap.put, h0]
   rw [← hix]
  have he : ¬ (s.getD i default).name = name := by simpa using hb
  rw [if_neg he] at hix
  refine Zd ?_
  simp only [go_sem, seval]
  apply hK3
  clear hK3 K3
  refine Zl zs [1, 2, 5] fun K Y => ?_
  simp only [go_sem, seval]
  apply Y; clear Y K
  simp only [go_sem, seval]
  refine ⟨⟨i + 1, by omega, by rw [w1 (by omega)], hix⟩, by rw [w1 (by omega)]; simp; omega⟩
 have hge : i = s.length := by simp at hb; omega
 have hix : (-1 : Int) = VH s name 0 := by rw [← hix, hge]; simp [VH]
 refine ZA ?_
 simp only [go_sem, seval]
 apply hK1
 refine ZE zs [4] ?_
 refine Zf ?_
 simp only [go_sem, seval]
 refine ⟨_, rfl, ?_, Frz.eq ?_ trivial⟩
 ·intro k hk; have h0 : k ≠ n := by omega
  simp [Heap.put, h0]
 rw [← hix]
theorem Q5 (s : List Fml) (H : Heap) (n : Nat) : Ret prog 56 [Zt s] H n (.int .i64 (Z8 s)) H n := by
 refine Ret.fin ?_
 refine Zc func56 rfl ntmps56 (congrArg Array.toList results56) (by simp) ?_
 simp only [go_sem]
 refine ZE zs [1] ?_
 refine Zb fun K1 hK1 => ?_
 refine Za zs [1, 8] fun K Y => ?_
 simp only [go_sem, seval]
 refine Zg func118 rfl rfl rfl ((by apply UB <;> first | assumption | omega)) ?_
 apply Y; clear Y K
 refine Ze ?_ ?_ <;> intro hb
 ·have hres : (28 : Int) = Z8 s := by
    have : bout s.length 1 8 = true := by simpa using hb
    simp [Z8, this]
  refine ZE zs [2] ?_
  refine Zf ?_
  simp only [go_sem, seval]
  refine ⟨_, rfl, ?_, Frz.eq (by rw [hres]) trivial⟩
  intro k hk; have h0 : k ≠ n := by omega
  (simp [Heap.put, h0]; done)
 have hb8 : bout s.length 1 8 = false := by simpa using hb
 have hlen := Wn hb8
 refine Zd ?_
 simp only [go_sem, seval]
 apply hK1
 clear hK1 K1
 refine Zb fun K2 hK2 => ?_
 refine ZE zs [1, 3] ?_
 refine Zj ?_
 refine Zz (fun T' H' n' => ∃ i : Nat, i ≤ s.length ∧ T' = tl [(1, .loc n 0 0 0 []), (3, .int .i64 i)] ∧ n + 1 ≤ n' ∧ H' n = some (.arr 0 1 [.agg [.sl 3 (s.map XG)]]) ∧ (∀ k, k < n → H' k = H k) ∧ WT s (s.drop i) i = WT s s 0) (fun T' _ _ => s.length - iv (T' 3)) ?_ ?_
 ·exact ⟨0, Nat.zero_le _, rfl, by omega, MG _ _ _, fun k hk => ME _ _ (by omega), rfl⟩
 intro T1 H1 n1
 rintro ⟨i, hi, rfl, hn, hHn, hH, hix⟩
 refine Zb fun K3 hK3 => ?_
 refine Za zs [1, 3, 13] fun K Y => ?_
 simp only [go_sem, seval, hHn]
 apply Y; clear Y K
 refine Ze ?_ ?_ <;> intro hb
 ·have hlt : i < s.length := by simpa using hb
  rw [ZZ s i hlt, Js] at hix
  have hn1 : (n = n1) = False := by simp; omega
  have hnth : nth (s.map XG) i = XG (s.getD i default) := ZF XG s i hlt
  refine Zd ?_
  simp only [go_sem, seval]
  apply hK3
  clear hK3 K3
  refine Zb fun K4 hK4 => ?_
  refine Zj ?_
  refine Za zs [1, 3, 4] fun K Y => ?_
  simp only [go_sem, seval, Int.toNat_natCast, hnth, hHn]
  repeat refine peel ?_
  apply Y; clear Y K
  refine Za zs [1, 3, 42] fun K Y => ?_
  simp only [go_sem, seval, Int.toNat_natCast]
  refine Zg func119 rfl rfl rfl ((c_ref2_name (s.getD i default).name _ _)) ?_
  simp only [go_sem, seval]
  refine Zv func118 rfl rfl rfl (fun _ => (UB (s.getD i default).max 1 16 _ _)) ?_
  simp only [go_sem, seval]
  repeat refine peel ?_
  refine Zv func118 rfl rfl rfl (fun _ => (UB (s.getD i default).ttl 0 1099511627776 _ _)) ?_
  simp only [go_sem, seval, hn1, hHn]
  repeat refine peel ?_
  refine Zv func120 rfl rfl rfl (fun _ => (c_ref2_Family s (s.getD i default).name (by omega) _ _)) ?_
  simp only [go_sem, seval]
  repeat refine peel ?_
  apply Y; clear Y K
  refine Ze ?_ ?_ <;> intro hb
  ·have hbad : V6 s (s.getD i default) i = true := by
     simp only [V6]; cases h1 : Xq (s.getD i default).name <;> cases h2 : bout (s.getD i default).max 1 16 <;> cases h3 : bout (s.getD i default).ttl 0 1099511627776 <;> simp_all
   have hres : (28 : Int) = Z8 s := by rw [hbad] at hix; simp [Z8, hb8, ← hix]
   refine ZE zs [2] ?_
   refine Zf ?_
   simp only [go_sem, seval]
   refine ⟨_, rfl, ?_, Frz.eq (by rw [hres]) trivial⟩
   intro k hk; have h0 : k ≠ n := by omega
   (have h1 : k ≠ n1 := (by omega); simp [Heap.put, h0, h1, hH k hk])
  have hbad : V6 s (s.getD i default) i = false := by
    simp only [V6]; cases h1 : Xq (s.getD i default).name <;> cases h2 : bout (s.getD i default).max 1 16 <;> cases h3 : bout (s.getD i default).ttl 0 1099511627776 <;> simp_all
  rw [hbad, Bool.false_or] at hix
  refine Zd ?_
  simp only [go_sem, seval]
  apply hK4
  clear hK4 K4
  refine Zl zs [1, 3] fun K Y => ?_
  simp only [go_sem, seval]
  apply Y; clear Y K
  simp only [go_sem, seval]
  refine ⟨⟨i + 1, by omega, by rw [w1 (by omega)], by omega, ?_, ?_, hix⟩, by rw [w1 (by omega)]; simp; omega⟩
  ·simp [hn1, hHn, Zt]
  ·intro k hk; have h0 : k ≠ n1 := by omega
   simp [h0, hH k hk]
 have hge : i = s.length := by simp at hb; omega
 have hres : (0 : Int) = Z8 s := by rw [hge] at hix; simp [WT] at hix; simp [Z8, hb8, hix]
 refine ZA ?_
 simp only [go_sem, seval]
 apply hK2
 refine ZE zs [2] ?_
 refine Zf ?_
 simp only [go_sem, seval]
 refine ⟨_, rfl, ?_, Frz.eq (by rw [hres]) trivial⟩
 intro k hk; have h0 : k ≠ n := by omega
 exact hH k hk
def YL (nf : Nat) (c : CmdE) : Int :=
 if c.kind ≠ 4 then (if 0 < c.row.length then 20 else if 0 < c.conds.length then 146 else if 0 < c.ops.length then 144 else 0)
 else if bout c.row.length 1 256 then 20 else if 8 < c.conds.length then 146 else if c.conds.all (XB nf) = false then 146 else if bout c.ops.length 1 16 then 144 else if c.ops.all (opOK nf) = false then 145 else 0
set_option maxRecDepth 100000 in
set_option maxHeartbeats 3200000 in
theorem c_ref14_lists (s : List Fml) (hs : s.length ≤ 2000000) (c : CmdE) (H : Heap) (n : Nat) : Ret prog 59 [Zt s, Zh c] H n (.int .i64 (YL s.length c)) H n := by
 have hsz := Yj c.q
 have haq : (Zq c.q).isAgg = true := rfl
 have hmq : (Zq c.q).memOK = true := rfl
 have hszs : (Zt s).sz = 1 := rfl
 have hags : (Zt s).isAgg = true := rfl
 have hmos : (Zt s).memOK = true := rfl
 have hv0 : ∀ x, (Zu x).sz = 4 := fun _ => rfl
 have hw0 : ∀ x, (Zu x).isAgg = true := fun _ => rfl
 have hm0 : ∀ x, (Zu x).memOK = true := fun _ => rfl
 have hv1 : ∀ x, (opAV x).sz = 6 := fun _ => rfl
 have hw1 : ∀ x, (opAV x).isAgg = true := fun _ => rfl
 have hm1 : ∀ x, (opAV x).memOK = true := fun _ => rfl
 refine Ret.fin ?_
 refine Zc func59 rfl ntmps59 (congrArg Array.toList results59) (by simp) ?_
 simp only [go_sem]
 refine Za zs [2, 3] fun K Y => ?_
 simp only [go_sem, seval, Zh, bys, hsz]
 apply Y; clear Y K
 refine Zb fun K1 hK1 => ?_
 refine Za zs [2, 3, 11] fun K Y => ?_
 simp only [go_sem, seval]
 apply Y; clear Y K
 refine Ze ?_ ?_ <;> intro hb
 ·have h4 : c.kind ≠ 4 := by simpa using hb
  refine Zb fun K2 hK2 => ?_
  refine Zj ?_
  refine Za zs [3, 12] fun K Y => ?_
  simp only [go_sem, seval, List.length_map]
  apply Y; clear Y K
  refine Ze ?_ ?_ <;> intro hb
  ·have h5 : 0 < c.row.length := by simp at hb; omega
   have hd : YL s.length c = 20 := by unfold YL; rw [if_pos h4, if_pos h5]
   refine Za zs [4] fun K Y => ?_
   simp only [go_sem, seval]
   apply Y; clear Y K
   refine Zf ?_
   simp only [go_sem, seval]
   refine ⟨_, rfl, fun k hk => ?_, Frz.eq (by rw [hd]) trivial⟩
   (repeat rw [if_neg (by omega)])
  have h5 : ¬ 0 < c.row.length := by have := of_decide_eq_false hb; omega
  refine Za zs [3, 17] fun K Y => ?_
  simp only [go_sem, seval, List.length_map]
  apply Y; clear Y K
  refine Ze ?_ ?_ <;> intro hb
  ·have h6 : 0 < c.conds.length := by simp at hb; omega
   have hd : YL s.length c = 146 := by unfold YL; rw [if_pos h4, if_neg h5, if_pos h6]
   refine Za zs [4] fun K Y => ?_
   simp only [go_sem, seval]
   apply Y; clear Y K
   refine Zf ?_
   simp only [go_sem, seval]
   refine ⟨_, rfl, fun k hk => ?_, Frz.eq (by rw [hd]) trivial⟩
   (repeat rw [if_neg (by omega)])
  have h6 : ¬ 0 < c.conds.length := by have := of_decide_eq_false hb; omega
  refine Za zs [22] fun K Y => ?_
  simp only [go_sem, seval, List.length_map]
  apply Y; clear Y K
  refine Ze ?_ ?_ <;> intro hb
  ·have h7 : 0 < c.ops.length := by simp at hb; omega
   have hd : YL s.length c = 144 := by unfold YL; rw [if_pos h4, if_neg h5, if_neg h6, if_pos h7]
   refine Za zs [4] fun K Y => ?_
   simp only [go_sem, seval]
   apply Y; clear Y K
   refine Zf ?_
   simp only [go_sem, seval]
   refine ⟨_, rfl, fun k hk => ?_, Frz.eq (by rw [hd]) trivial⟩
   (repeat rw [if_neg (by omega)])
  have h7 : ¬ 0 < c.ops.length := by have := of_decide_eq_false hb; omega
  have hd : YL s.length c = 0 := by unfold YL; rw [if_pos h4, if_neg h5, if_neg h6, if_neg h7]
  refine Zd ?_
  simp only [go_sem, seval]
  apply hK2
  clear hK2 K2
  refine Za zs [4] fun K Y => ?_
  simp only [go_sem, seval]
  apply Y; clear Y K
  refine Zf ?_
  simp only [go_sem, seval]
  refine ⟨_, rfl, fun k hk => ?_, Frz.eq (by rw [hd]) trivial⟩
  (repeat rw [if_neg (by omega)])
 have h4 : c.kind = 4 := by simpa using hb
 refine Zd ?_
 simp only [go_sem, seval]
 apply hK1
 clear hK1 K1
 refine Zb fun K3 hK3 => ?_
 refine Za zs [2, 3, 30] fun K Y => ?_
 simp only [go_sem, seval, List.length_map]
 refine Zg func57 rfl rfl rfl ((Yo c.row.length 1 256 _ _)) ?_
 apply Y; clear Y K
 refine Ze ?_ ?_ <;> intro hb
 ·have h8 : bout c.row.length 1 256 = true := hb
  have hd : YL s.length c = 20 := by unfold YL; simp [h4, h8]
  refine Za zs [4] fun K Y => ?_
  simp only [go_sem, seval]
  apply Y; clear Y K
  refine Zf ?_
  simp only [go_sem, seval]
  refine ⟨_, rfl, fun k hk => ?_, Frz.eq (by rw [hd]) trivial⟩
  (repeat rw [if_neg (by omega)])
 have h8 : bout c.row.length 1 256 = false := hb
 refine Zd ?_
 simp only [go_sem, seval]
 apply hK3
 clear hK3 K3
 refine Zb fun K4 hK4 => ?_
 refine Za zs [2, 3, 34] fun K Y => ?_
 simp only [go_sem, seval, List.length_map]
 apply Y; clear Y K
 refine Ze ?_ ?_ <;> intro hb
 ·have h9 : 8 < c.conds.length := by simp at hb; omega
  have hd : YL s.length c = 146 := by unfold YL; simp [h4, h8, h9]
  refine Za zs [4] fun K Y => ?_
  simp only [go_sem, seval]
  apply Y; clear Y K
  refine Zf ?_
  simp only [go_sem, seval]
  refine ⟨_, rfl, fun k hk => ?_, Frz.eq (by rw [hd]) trivial⟩
  (repeat rw [if_neg (by omega)])
 have h9 : ¬ 8 < c.conds.length := by simp at hb; omega
 refine Zd ?_
 simp only [go_sem, seval]
 apply hK4
 clear hK4 K4
 refine Zb fun K5 hK5 => ?_
 refine Za zs [2, 3, 5] fun K Y => ?_
 simp only [go_sem, seval]
 apply Y; clear Y K
 refine Zj ?_
 refine Zz (fun T' H' n' => ∃ i : Nat, i ≤ c.conds.length ∧ T' = tl [(2, .loc n 0 0 0 []), (3, .loc (n + 1) 0 0 0 []), (5, .int .i64 i)] ∧ H' = (H.put n (some (.arr 0 1 [Zt s]))).put (n + 1) (some (.arr 0 17 [Zh c])) ∧ n' = n + 2 ∧ c.conds.all (XB s.length) = (c.conds.drop i).all (XB s.length)) (fun T' _ _ => c.conds.length - iv (T' 5)) ?_ ?_
 ·exact ⟨0, Nat.zero_le _, rfl, rfl, rfl, by simp⟩
 intro T1 H1 n1
 rintro ⟨i, hi, rfl, rfl, rfl, hix⟩
 refine Zb fun K6 hK6 => ?_
 refine Za zs [2, 3, 5, 39] fun K Y => ?_
 simp only [go_sem, seval, Zh, List.length_map, bys]
 apply Y; clear Y K
 refine Ze ?_ ?_ <;> intro hb
 ·have hlt : i < c.conds.length := by have := of_decide_eq_true hb; omega
  rw [WV _ _ hlt] at hix
  have hn1 : nth (c.conds.map Zu) i = Zu (c.conds.getD i default) := ZF Zu c.conds i hlt
  generalize c.conds.getD i default = x at *
  refine Zd ?_
  simp only [go_sem, seval, Zh, bys]
  apply hK6
  clear hK6 K6
  refine Zb fun K7 hK7 => ?_
  refine Zj ?_
  refine YJ rfl zs [2, 3, 5, 6] [.q, .q, .q, .m, .q, .q, .c, .q] (by kernel_rfl) (fun _ _ _ _ _ h => h) fun K Y => ?_
  simp only [go_sem, seval, Zh, List.length_map, bys, Int.toNat_natCast, hn1, hv0, hw0]
  repeat refine peel ?_
  refine ZR func121 rfl rfl rfl (fun _ n => (c_ref14_cond s hs x _ _)) ?_
  simp only [go_sem, seval]
  apply Y; clear Y K
  refine Za zs [2, 3, 5, 50] fun K Y => ?_
  simp only [go_sem, seval, Zh, bys]
  apply Y; clear Y K
  refine Ze ?_ ?_ <;> intro hb
  ·have hx : XB s.length x = false := by simpa using hb
   have hd : YL s.length c = 146 := by unfold YL; simp_all
   refine Za zs [4] fun K Y => ?_
   simp only [go_sem, seval, Zh, bys]
   apply Y; clear Y K
   refine Zf ?_
   simp only [go_sem, seval, Zh, bys]
   refine ⟨_, rfl, fun k hk => ?_, Frz.eq (by rw [hd]) trivial⟩
   (repeat rw [if_neg (by omega)])
  have hx : XB s.length x = true := by simpa using hb
  rw [hx, Bool.true_and] at hix
  refine Zd ?_
  simp only [go_sem, seval, Zh, bys]
  apply hK7
  clear hK7 K7
  refine Zl zs [2, 3, 5] fun K Y => ?_
  simp only [go_sem, seval, Zh, bys]
  apply Y; clear Y K
  simp only [go_sem, seval, Zh, bys]
  exact ⟨⟨i + 1, by omega, by rw [w1 (by omega)], hix⟩, by rw [w1 (by omega)]; simp; omega⟩
 have hall0 : c.conds.all (XB s.length) = true := by have : i = c.conds.length := (by have := of_decide_eq_false hb; omega); rw [hix, this]; simp
 refine ZA ?_
 simp only [go_sem, seval, Zh, bys]
 apply hK5
 refine Zb fun K8 hK8 => ?_
 refine Za zs [2, 3, 54] fun K Y => ?_
 simp only [go_sem, seval, List.length_map]
 refine Zg func57 rfl rfl rfl ((Yo c.ops.length 1 16 _ _)) ?_
 apply Y; clear Y K
 refine Ze ?_ ?_ <;> intro hb
 ·have h10 : bout c.ops.length 1 16 = true := hb
  have hd : YL s.length c = 144 := by unfold YL; rw [if_neg (by simp [h4]), if_neg (by rw [h8]; simp), if_neg h9, if_neg (by rw [hall0]; simp), if_pos h10]
  refine Za zs [4] fun K Y => ?_
  simp only [go_sem, seval]
  apply Y; clear Y K
  refine Zf ?_
  simp only [go_sem, seval]
  refine ⟨_, rfl, fun k hk => ?_, Frz.eq (by rw [hd]) trivial⟩
  (repeat rw [if_neg (by omega)])
 have h10 : bout c.ops.length 1 16 = false := hb
 have hol := Wn h10
 refine Zd ?_
 simp only [go_sem, seval]
 apply hK8
 clear hK8 K8
 refine Zb fun K9 hK9 => ?_
 refine Za zs [2, 3, 7] fun K Y => ?_
 simp only [go_sem, seval]
 apply Y; clear Y K
 refine Zj ?_
 refine Zz (fun T' H' n' => ∃ i : Nat, i ≤ c.ops.length ∧ T' = tl [(2, .loc n 0 0 0 []), (3, .loc (n + 1) 0 0 0 []), (7, .int .i64 i)] ∧ H' = (H.put n (some (.arr 0 1 [Zt s]))).put (n + 1) (some (.arr 0 17 [Zh c])) ∧ n' = n + 2 ∧ c.ops.all (opOK s.length) = (c.ops.drop i).all (opOK s.length)) (fun T' _ _ => c.ops.length - iv (T' 7)) ?_ ?_
 ·exact ⟨0, Nat.zero_le _, rfl, rfl, rfl, by simp⟩
 intro T1 H1 n1
 rintro ⟨i, hi, rfl, rfl, rfl, hix⟩
 refine Zb fun K10 hK10 => ?_
 refine Za zs [2, 3, 7, 59] fun K Y => ?_
 simp only [go_sem, seval, Zh, List.length_map, bys]
 apply Y; clear Y K
 refine Ze ?_ ?_ <;> intro hb
 ·have hlt : i < c.ops.length := by have := of_decide_eq_true hb; omega
  rw [WV _ _ hlt] at hix
  have hn1 : nth (c.ops.map opAV) i = opAV (c.ops.getD i default) := ZF opAV c.ops i hlt
  generalize c.ops.getD i default = x at *
  refine Zd ?_
  simp only [go_sem, seval, Zh, bys]
  apply hK10
  clear hK10 K10
  refine Zb fun K11 hK11 => ?_
  refine Zj ?_
  refine YJ rfl zs [2, 3, 7, 8] [.q, .q, .q, .m, .q, .q, .c, .q] (by kernel_rfl) (fun _ _ _ _ _ h => h) fun K Y => ?_
  simp only [go_sem, seval, Zh, List.length_map, bys, Int.toNat_natCast, hn1, hv1, hw1]
  repeat refine peel ?_
  refine ZR func122 rfl rfl rfl (fun _ n => (c_ref14_op s hs x _ _)) ?_
  simp only [go_sem, seval]
  apply Y; clear Y K
  refine Za zs [2, 3, 7, 70] fun K Y => ?_
  simp only [go_sem, seval, Zh, bys]
  apply Y; clear Y K
  refine Ze ?_ ?_ <;> intro hb
  ·have hx : opOK s.length x = false := by simpa using hb
   have hd : YL s.length c = 145 := by unfold YL; rw [if_neg (by simp [h4]), if_neg (by rw [h8]; simp), if_neg h9, if_neg (by rw [hall0]; simp), if_neg (by rw [h10]; simp), if_pos (by rw [hix, hx]; rfl)]
   refine Za zs [4] fun K Y => ?_
   simp only [go_sem, seval, Zh, bys]
   apply Y; clear Y K
   refine Zf ?_
   simp only [go_sem, seval, Zh, bys]
   refine ⟨_, rfl, fun k hk => ?_, Frz.eq (by rw [hd]) trivial⟩
   (repeat rw [if_neg (by omega)])
  have hx : opOK s.length x = true := by simpa using hb
  rw [hx, Bool.true_and] at hix
  refine Zd ?_
  simp only [go_sem, seval, Zh, bys]
  apply hK11
  clear hK11 K11
  refine Zl zs [2, 3, 7] fun K Y => ?_
  simp only [go_sem, seval, Zh, bys]
  apply Y; clear Y K
  simp only [go_sem, seval, Zh, bys]
  exact ⟨⟨i + 1, by omega, by rw [w1 (by omega)], hix⟩, by rw [w1 (by omega)]; simp; omega⟩
 have hall1 : c.ops.all (opOK s.length) = true := by have : i = c.ops.length := (by have := of_decide_eq_false hb; omega); rw [hix, this]; simp
 have hd : YL s.length c = 0 := by unfold YL; rw [if_neg (by simp [h4]), if_neg (by rw [h8]; simp), if_neg h9, if_neg (by rw [hall0]; simp), if_neg (by rw [h10]; simp), if_neg (by rw [hall1]; simp)]
 refine ZA ?_
 simp only [go_sem, seval, Zh, bys]
 apply hK9
 refine Za zs [4] fun K Y => ?_
 simp only [go_sem, seval]
 apply Y; clear Y K
 refine Zf ?_
 simp only [go_sem, seval]
 refine ⟨_, rfl, fun k hk => ?_, Frz.eq (by rw [hd]) trivial⟩
 (repeat rw [if_neg (by omega)])
theorem mod128 (x : Nat) : AV.int .u8 (IntKind.u8.wrap (IntKind.u64.wrap (128 + (x : Int).tmod 128))) = Zn (UInt8.ofNat (x % 128 + 128)) := by
 have h1 : (x : Int).tmod 128 = ((x % 128 : Nat) : Int) := by rw [Int.tmod_eq_emod_of_nonneg (by omega)]; omega
 rw [h1, show (128 : Int) + ((x % 128 : Nat) : Int) = ((x % 128 + 128 : Nat) : Int) by omega, YK, XD _ (by omega), Y3, Ki]
theorem Kn (v : Nat) (hv : v < 18446744073709551616) (H : Heap) (n : Nat) : Ret prog 134 [.int .u64 v] H n (.osl n (Zm v).length 0 (Zm v).length) (H.put n (some (.arr (Zm v).length 1 ((Zm v).map Zn)))) (n + 1) := by
 have hlen := ZL hv
 refine Zc func134 rfl ntmps134 (congrArg Array.toList results134) (by simp) ?_
 simp only [go_sem]
 refine Za zs [0] fun K Y => ?_
 simp only [go_sem, seval]
 apply Y; clear Y K
 refine Za zs [0, 3] fun K Y => ?_
 simp only [go_sem, seval]
 apply Y; clear Y K
 refine Zb fun K1 hK1 => ?_
 refine Zj ?_
 refine Yb 3 1 rfl ?_
 refine YR [0, 3] ?_
 simp only [go_sem, seval]
 refine Zz (fun T' H' n' => ∃ (b : List UInt8) (x : Nat), b ++ Zm x = Zm v ∧ x < 18446744073709551616 ∧ T' = tl [(0, .int .u64 x), (3, .osl n b.length 0 b.length)] ∧ H' = H.put n (some (.arr b.length 1 (b.map Zn))) ∧ n' = n + 1) (fun T' _ _ => iv (T' 0)) ?_ ?_
 ·exact ⟨[], v, rfl, hv, rfl, rfl, rfl⟩
 intro T1 H1 n1
 rintro ⟨b, x, hbx, hx, rfl, rfl, rfl⟩
 refine Zb fun K2 hK2 => ?_
 refine Za zs [0, 3, 5] fun K Y => ?_
 simp only [go_sem, seval]
 apply Y; clear Y K
 refine Ze ?_ ?_ <;> intro hb
 ·have hge : 128 ≤ x := by have := of_decide_eq_true hb; omega
  rw [UM hge] at hbx
  have hbl : b.length ≤ 10 := by have := congrArg List.length hbx; simp at this; omega
  have hdv : (x : Int).tdiv 128 = ((x / 128 : Nat) : Int) := by rw [Int.tdiv_eq_ediv_of_nonneg (by omega)]; omega
  have hwr : IntKind.u64.wrap ((x / 128 : Nat) : Int) = ((x / 128 : Nat) : Int) := by rw [YK, XD _ (by omega)]
  refine Zd ?_
  simp only [go_sem, seval]
  apply hK2
  clear hK2 K2
  refine Zj ?_
  refine Za zs [0, 3] fun K Y => ?_
  simp only [go_sem, seval, mod128, List.length_map]
  repeat (first | refine peel ?_ | (refine And.intro ?_ ?_; · first | exact ⟨rfl, by simp [AV.sz, AV.memOK]⟩ | exact ⟨by omega, .inr trivial, by omega, by omega⟩))
  apply Y; clear Y K
  refine Zl zs [0, 3] fun K Y => ?_
  simp only [go_sem, seval, hdv, hwr]
  apply Y; clear Y K
  simp only [go_sem, seval]
  refine ⟨⟨b ++ [UInt8.ofNat (x % 128 + 128)], x / 128, by rw [List.append_assoc]; exact hbx, by omega, ?_, ?_⟩, by simp [iv]; omega⟩
  ·rw [List.length_append]; rfl
  ·rw [List.take_of_length_le (by simp), List.map_append, List.length_append]; rfl
 have hlt : x < 128 := by have := of_decide_eq_false hb; omega
 rw [WX hlt] at hbx
 have hbl : b.length ≤ 10 := by have := congrArg List.length hbx; simp at this; omega
 refine ZA ?_
 simp only [go_sem, seval]
 apply hK1
 refine Za zs [2] fun K Y => ?_
 simp only [go_sem, seval, Y3, Ki, List.length_map]
 repeat (first | refine peel ?_ | (refine And.intro ?_ ?_; · first | exact ⟨rfl, by simp [AV.sz, AV.memOK]⟩ | exact ⟨by omega, .inr trivial, by omega, by omega⟩))
 apply Y; clear Y K
 refine Zf ?_
 simp only [go_sem, seval]
 rw [← hbx, List.take_of_length_le (by simp), List.map_append, List.length_append]
 exact ⟨rfl, rfl⟩
theorem c_ref1_Uint (v : Nat) (hv : v < 18446744073709551616) (H : Heap) (n : Nat) : Ret prog 134 [.int .u64 v] H n (bys (Zm v)) H n :=
 Ret.fin ((Kn v hv H n).mono fun res H1 n1 ⟨hr, hH, hn⟩ => ⟨_, hr, fun k hk => by rw [hH, ME _ _ (by omega)], by
   rw [hH]; exact .osl (MG _ _ _) (Nat.le_refl _) (by simp) (by rw [List.drop_zero, List.take_of_length_le (by simp)]; exact YA _ (YE _ n))⟩)
theorem o_ref1_Bytes (b : List UInt8) (hb : b.length ≤ 1099511627776) (H : Heap) (n : Nat) : Ret prog 135 [bys b] H n (.osl n ((Zm b.length).length + 1) 0 (Zp b).length) (H.put n (some (.arr ((Zm b.length).length + 1) 1 ((Zp b).map Zn)))) (n + 1) := by
 have hlen := ZL (v := b.length) (by omega)
 have hu : u64 (b.length : Int) = b.length := XD _ (by omega)
 refine Zc func135 rfl ntmps135 (congrArg Array.toList results135) (by simp) ?_
 simp only [go_sem]
 refine Za zs [0] fun K Y => ?_
 simp only [go_sem, seval]
 apply Y; clear Y K
 refine Za zs [2] fun K Y => ?_
 simp only [go_sem, seval, List.length_map, YK, hu]
 refine Zg func134 rfl rfl rfl ((Kn b.length (by omega) _ _)) ?_
 simp only [go_sem, seval, List.length_map]
 repeat (first | refine peel ?_ | refine ⟨by exact ⟨by omega, .inr trivial, by omega, by omega⟩, ?_⟩)
 apply Y; clear Y K
 refine Zf ?_
 simp only [go_sem, seval]
 refine ⟨by simp [Zp], ?_⟩
 funext k; simp only [MF]
 by_cases hk : k = n
 ·simp [hk, Zp, List.take_of_length_le]
 ·simp [hk]
theorem c_ref1_Bytes (b : List UInt8) (hb : b.length ≤ 1099511627776) (H : Heap) (n : Nat) : Ret prog 135 [bys b] H n (bys (Zp b)) H n :=
 Ret.fin ((o_ref1_Bytes b hb H n).mono fun res H1 n1 ⟨hr, hH, hn⟩ => ⟨_, hr, fun k hk => by rw [hH, ME _ _ (by omega)], by
   rw [hH]; exact .osl (MG _ _ _) (Nat.le_refl _) (by simp) (by rw [List.drop_zero, List.take_of_length_le (by simp)]; exact YA _ (YE _ n))⟩)
theorem YM {kb ver : Nat} {bs : List UInt8} {H : Heap} {n : Nat} (hB : H kb = some (.arr ver 1 (bs.map Zn))) (x : Int) (hM : bs.length + 10 ≤ 70368744177664) :
   Ret prog 88 [.osl kb ver 0 bs.length, .int .i64 x] H n (.osl kb (ver + 1) 0 (bs ++ Zm (u64 x)).length) (H.put kb (some (.arr (ver + 1) 1 ((bs ++ Zm (u64 x)).map Zn)))) n := by
 have hlen := ZL (Xg x)
 refine Zc func88 rfl ntmps88 (congrArg Array.toList results88) (by simp) ?_
 simp only [go_sem]
 refine Za zs [0, 1] fun K Y => ?_
 simp only [go_sem, seval]
 apply Y; clear Y K
 refine Za zs [4] fun K Y => ?_
 simp only [go_sem, seval, YK]
 refine Zg func134 rfl rfl rfl ((c_ref1_Uint (u64 x) (Xg x) _ _)) ?_
 simp only [go_sem, seval, List.length_map, hB]
 repeat (first | refine peel ?_ | refine ⟨by exact ⟨by omega, .inr trivial, by omega, by omega⟩, ?_⟩)
 apply Y; clear Y K
 refine Zf ?_
 simp only [go_sem, seval]
 rw [List.length_append, List.map_append, List.take_of_length_le (by simp)]
 exact ⟨rfl, rfl⟩
theorem YX {kb ver : Nat} {bs : List UInt8} {H : Heap} {n : Nat} (hB : H kb = some (.arr ver 1 (bs.map Zn))) (x : List UInt8) (hx : x.length ≤ 1099511627776) (hM : bs.length + 10 + x.length ≤ 70368744177664) :
   Ret prog 90 [.osl kb ver 0 bs.length, bys x] H n (.osl kb (ver + 1) 0 (bs ++ Zp x).length) (H.put kb (some (.arr (ver + 1) 1 ((bs ++ Zp x).map Zn)))) n := by
 have hlen := ZL (v := x.length) (by omega)
 have hl2 : (Zp x).length = (Zm x.length).length + x.length := by simp [Zp]
 refine Zc func90 rfl ntmps90 (congrArg Array.toList results90) (by simp) ?_
 simp only [go_sem]
 refine Za zs [0, 1] fun K Y => ?_
 simp only [go_sem, seval]
 apply Y; clear Y K
 refine Za zs [4] fun K Y => ?_
 simp only [go_sem, seval]
 refine Zg func135 rfl rfl rfl ((c_ref1_Bytes x hx _ _)) ?_
 simp only [go_sem, seval, List.length_map, hB]
 repeat (first | refine peel ?_ | refine ⟨by exact ⟨by omega, .inr trivial, by omega, by omega⟩, ?_⟩)
 apply Y; clear Y K
 refine Zf ?_
 simp only [go_sem, seval]
 rw [List.length_append, List.map_append, List.take_of_length_le (by simp)]
 exact ⟨rfl, rfl⟩
theorem c_ref14_flag {kb ver : Nat} {bs : List UInt8} {H : Heap} {n : Nat} (hB : H kb = some (.arr ver 1 (bs.map Zn))) (x : Bool) (hM : bs.length + 10 ≤ 70368744177664) :
   Ret prog 89 [.osl kb ver 0 bs.length, .bool x] H n (.osl kb (ver + 1) 0 (bs ++ Wx x).length) (H.put kb (some (.arr (ver + 1) 1 ((bs ++ Wx x).map Zn)))) n := by
 refine Zc func89 rfl ntmps89 (congrArg Array.toList results89) (by simp) ?_
 simp only [go_sem]
 refine Za zs [0, 1] fun K Y => ?_
 simp only [go_sem, seval]
 apply Y; clear Y K
 refine Zb fun K1 hK1 => ?_
 refine Za zs [0, 5] fun K Y => ?_
 simp only [go_sem, seval]
 apply Y; clear Y K
 refine Ze ?_ ?_ <;> intro hb
 ·subst hb
  refine Za zs [4] fun K Y => ?_
  simp only [go_sem, seval, List.length_map, hB]
  repeat (first | refine peel ?_ | refine ⟨by exact ⟨by omega, .inr trivial, by omega, by omega⟩, ?_⟩)
  apply Y; clear Y K
  refine Zf ?_
  simp only [go_sem, seval]
  refine ⟨by simp [Wx], ?_⟩
  rw [List.map_append, List.take_of_length_le (by simp)]
  rfl
 subst hb
 refine Zd ?_
 simp only [go_sem, seval]
 apply hK1
 clear hK1 K1
 refine Za zs [4] fun K Y => ?_
 simp only [go_sem, seval, List.length_map, hB]
 repeat (first | refine peel ?_ | refine ⟨by exact ⟨by omega, .inr trivial, by omega, by omega⟩, ?_⟩)
 apply Y; clear Y K
 refine Zf ?_
 simp only [go_sem, seval]
 refine ⟨by simp [Wx], ?_⟩
 rw [List.map_append, List.take_of_length_le (by simp)]
 rfl
theorem eight_u64 (x : Int) {j : Nat} (h : j < 8) : AV.int .u8 (IntKind.u8.wrap ((u64 x : Int).fdiv (2 ^ min ((u64 (56 - 8 * (j : Int)) : Nat) : Int).toNat 64))) = Zn (ZW (x / 2 ^ (56 - 8 * j))) := by
 have hs : ((u64 (56 - 8 * (j : Int)) : Nat) : Int).toNat = 56 - 8 * j := by unfold u64; omega
 rw [hs, show min (56 - 8 * j) 64 = 56 - 8 * j by omega, fdiv_pow, Y3]
 have key : ((u64 x : Int) / 2 ^ (56 - 8 * j)) % 256 = (x / 2 ^ (56 - 8 * j)) % 256 := by
   unfold u64
   rcases j with _ | _ | _ | _ | _ | _ | _ | _ | j <;> first | omega | (simp only [Nat.reduceMul, Nat.reduceSub, Nat.reduceAdd, Nat.zero_add, Int.reducePow]; omega)
 unfold ZW
 rw [key]
theorem c_ref14_delta (x : Int) (H : Heap) (n : Nat) : Ret prog 126 [.int .i64 x] H n (bys (XO x)) H n := by
 refine Ret.fin ?_
 refine Zc func126 rfl ntmps126 (congrArg Array.toList results126) (by simp) ?_
 simp only [go_sem]
 refine Za zs [0] fun K Y => ?_
 simp only [go_sem, seval]
 apply Y; clear Y K
 refine Za zs [3] fun K Y => ?_
 simp only [go_sem, seval, YK]
 apply Y; clear Y K
 refine Za zs [3, 4] fun K Y => ?_
 simp only [go_sem, seval]
 apply Y; clear Y K
 refine Zb fun K1 hK1 => ?_
 refine Za zs [3, 4, 5] fun K Y => ?_
 simp only [go_sem, seval]
 apply Y; clear Y K
 refine Zj ?_
 refine Yb 4 1 rfl ?_
 refine YR [3, 4, 5] ?_
 simp only [go_sem, seval]
 refine Zz (fun T' H' n' => ∃ j : Nat, j ≤ 8 ∧ T' = tl [(3, .int .u64 (u64 x)), (4, .osl n j 0 j), (5, .int .i64 (56 - 8 * j))] ∧ H' = H.put n (some (.arr j 1 (((XO x).take j).map Zn))) ∧ n' = n + 1) (fun T' _ _ => iv8 (T' 5)) ?_ ?_
 ·exact ⟨0, by omega, rfl, rfl, rfl⟩
 intro T1 H1 n1
 rintro ⟨j, hj, rfl, rfl, rfl⟩
 refine Zb fun K2 hK2 => ?_
 refine Za zs [3, 4, 5, 9] fun K Y => ?_
 simp only [go_sem, seval]
 apply Y; clear Y K
 refine Ze ?_ ?_ <;> intro hb
 ·have hlt : j < 8 := by have := of_decide_eq_true hb; omega
  have he := eight_u64 x hlt
  have e2 : IntKind.i64.wrap (56 - 8 * (j : Int) - 8) = 56 - 8 * ((j + 1 : Nat) : Int) := by rw [w64 (by omega) (by omega)]; omega
  refine Zd ?_
  simp only [go_sem, seval]
  apply hK2
  clear hK2 K2
  refine Zb fun K3 hK3 => ?_
  refine Zj ?_
  refine Zl zs [3, 4, 5] fun K Y => ?_
  simp only [go_sem, seval, List.length_map, YK, he]
  repeat (first | refine peel ?_ | (refine And.intro ?_ ?_; · first | exact ⟨rfl, by simp [AV.sz, AV.memOK]⟩ | exact ⟨by simp [WM]; omega, .inr trivial, by omega, by omega⟩))
  apply Y; clear Y K
  simp only [go_sem, seval]
  apply hK3
  clear hK3 K3
  refine Zl zs [3, 4, 5] fun K Y => ?_
  simp only [go_sem, seval, e2]
  apply Y; clear Y K
  simp only [go_sem, seval]
  refine ⟨⟨j + 1, by omega, rfl, ?_⟩, ?_⟩
  ·rw [List.take_of_length_le (by simp; omega), ← Ma x hlt, List.map_append]; rfl
  ·show (56 - 8 * ((j + 1 : Nat) : Int) + 8).toNat < (56 - 8 * (j : Int) + 8).toNat
   omega
 have hge : j = 8 := by have := of_decide_eq_false hb; omega
 refine ZA ?_
 simp only [go_sem, seval]
 apply hK1
 refine Za zs [2] fun K Y => ?_
 simp only [go_sem, seval]
 apply Y; clear Y K
 refine Zf ?_
 simp only [go_sem, seval]
 subst hge
 refine ⟨_, rfl, fun k hk => by rw [if_neg (by omega)], .osl (MG _ _ _) (Nat.le_refl _) (by simp [WM]) ?_⟩
 rw [List.take_of_length_le (by simp [WM]), List.drop_zero, List.take_of_length_le (by simp [WM])]
 exact YA _ (YE _ n)
theorem c_law14_same (a b : List UInt8) (ha : a.length ≤ 1099511627776) (H : Heap) (n : Nat) : Ret prog 19 [bys a, bys b] H n (.bool (decide (a = b))) H n := by
 refine Zc func19 rfl ntmps19 (congrArg Array.toList results19) (by simp) ?_
 simp only [go_sem]
 refine Za zs [0, 1] fun K Y => ?_
 simp only [go_sem, seval]
 apply Y; clear Y K
 refine Zb fun K1 hK1 => ?_
 refine Za zs [0, 1, 10] fun K Y => ?_
 simp only [go_sem, seval, List.length_map]
 apply Y; clear Y K
 refine Ze ?_ ?_ <;> intro hb
 ·have hne : ¬ a = b := fun e => by rw [e] at hb; simp at hb
  refine Za zs [4] fun K Y => ?_
  simp only [go_sem, seval]
  apply Y; clear Y K
  refine Zf ?_
  simp only [go_sem, seval]
  simp [hne]
 have hl : a.length = b.length := by simp at hb; omega
 refine Zd ?_
 simp only [go_sem, seval]
 apply hK1
 clear hK1 K1
 refine Zb fun K2 hK2 => ?_
 refine Za zs [0, 1, 5] fun K Y => ?_
 simp only [go_sem, seval]
 apply Y; clear Y K
 refine Zj ?_
 refine Zz (fun T' H' n' => ∃ i : Nat, i ≤ a.length ∧ T' = tl [(0, bys a), (1, bys b), (5, .int .i64 i)] ∧ H' = H ∧ n' = n ∧ (a.drop i = b.drop i ↔ a = b)) (fun T' _ _ => a.length - iv (T' 5)) ?_ ?_
 ·exact ⟨0, Nat.zero_le _, rfl, rfl, rfl, by simp⟩
 intro T1 H1 n1
 rintro ⟨i, hi, rfl, rfl, rfl, hix⟩
 refine Zb fun K3 hK3 => ?_
 refine Za zs [0, 1, 5, 14] fun K Y => ?_
 simp only [go_sem, seval, List.length_map]
 apply Y; clear Y K
 refine Ze ?_ ?_ <;> intro hb
 ·have hlt : i < a.length := by have := of_decide_eq_true hb; omega
  have hlt2 : i < b.length := by omega
  rw [ZZ a i hlt, ZZ b i hlt2, List.cons.injEq] at hix
  have hn1 : nth (a.map Zn) i = Zn (a.getD i default) := ZF Zn a i hlt
  have hn2 : nth (b.map Zn) i = Zn (b.getD i default) := ZF Zn b i hlt2
  refine Zd ?_
  simp only [go_sem, seval]
  apply hK3
  clear hK3 K3
  refine Zb fun K4 hK4 => ?_
  refine Zj ?_
  refine YJ rfl zs [0, 1, 5, 25] [.m, .m, .q, .q, .m, .m, .q, .q, .q] (by kernel_rfl) (fun _ _ _ _ _ h => h) fun K Y => ?_
  simp only [go_sem, seval, List.length_map, Int.toNat_natCast, hn1, hn2, Zn]
  repeat refine peel ?_
  apply Y; clear Y K
  refine Ze ?_ ?_ <;> intro hb
  ·have hne : ¬ a = b := fun e => by subst e; simp at hb
   refine Za zs [4] fun K Y => ?_
   simp only [go_sem, seval]
   apply Y; clear Y K
   refine Zf ?_
   simp only [go_sem, seval]
   simp [hne]
  have hx : a.getD i default = b.getD i default := by apply UInt8.toNat_inj.1; have h9 := hb; simp only [bne_eq_false_iff_eq] at h9; omega
  have hnext : (a.drop (i + 1) = b.drop (i + 1)) ↔ a = b := by rw [← hix]; simp only [hx, true_and]
  refine Zd ?_
  simp only [go_sem, seval]
  apply hK4
  clear hK4 K4
  refine Zl zs [0, 1, 5] fun K Y => ?_
  simp only [go_sem, seval]
  apply Y; clear Y K
  simp only [go_sem, seval]
  exact ⟨⟨i + 1, by omega, by rw [w1 (by omega)], hnext⟩, by rw [w1 (by omega)]; simp; omega⟩
 have hge : i = a.length := by have := of_decide_eq_false hb; omega
 have heq : a = b := by rw [← hix, hge, List.drop_length, hl, List.drop_length]
 refine ZA ?_
 simp only [go_sem, seval]
 apply hK2
 refine Za zs [4] fun K Y => ?_
 simp only [go_sem, seval]
 apply Y; clear Y K
 refine Zf ?_
 simp only [go_sem, seval]
 simp [heq]
theorem Wq (H : Heap) (n : Nat) : Ret prog 41 [] H n (Zt [⟨[102], 1, 0⟩]) H n := by
 refine Ret.fin ?_
 refine Zc func41 rfl ntmps41 (congrArg Array.toList results41) (by simp) ?_
 simp only [go_sem]
 refine ZE zs [0] ?_
 refine ZE zs [0] ?_
 refine Zf ?_
 simp only [go_sem, seval]
 exact ⟨_, rfl, fun k hk => by rw [if_neg (by omega)], .kl ⟨⟨⟨trivial, trivial, trivial, trivial⟩, trivial⟩, trivial⟩⟩
theorem Vp (b : List UInt8) (k : Int) (hk0 : 0 ≤ k) (hk1 : k ≤ 1048576) (H : Heap) (n : Nat) : Ret prog 25 [bys b, .int .i64 k] H n (bys (b.take k.toNat)) H n := by
 refine Ret.fin ?_
 refine Zc func25 rfl ntmps25 (congrArg Array.toList results25) (by simp) ?_
 simp only [go_sem]
 refine Za zs [0, 1] fun K Y => ?_
 simp only [go_sem, seval]
 apply Y; clear Y K
 refine Yi [0] (fun T' H' n' => T' = tl [(0, bys (b.take k.toNat))] ∧ H' = H ∧ n' = n) ?_ ?_
 ·refine Za zs [0, 1, 10] fun K Y => ?_
  simp only [go_sem, seval, List.length_map]
  apply Y; clear Y K
  refine Ze ?_ ?_ <;> intro hb
  ·refine Zl zs [0] fun K Y => ?_
   simp only [go_sem, seval, List.length_map]
   repeat (first | refine peel ?_ | refine ⟨by exact ⟨by simp, by simpa using hk0, by simp at hb ⊢; omega, fun m h => h.elim⟩, ?_⟩)
   apply Y; clear Y K
   simp only [go_sem, seval]
   (simp [List.map_take]; done)
  refine Zd ?_
  simp only [go_sem, seval]
  (rw [List.take_of_length_le (by have := of_decide_eq_false hb; omega)])
 rintro T1 H1 n1 ⟨rfl, rfl, rfl⟩
 have hm : (b.take k.toNat).length ≤ 1048576 := by simp; omega
 generalize b.take k.toNat = m at *
 refine Za zs [0, 5] fun K Y => ?_
 simp only [go_sem, seval]
 apply Y; clear Y K
 refine Yb 5 1 rfl ?_
 simp only [go_sem, seval]
 refine Za zs [0, 5] fun K Y => ?_
 simp only [go_sem, seval, List.length_map]
 repeat (first | refine peel ?_ | refine ⟨by exact ⟨.inr trivial, by omega, by omega⟩, ?_⟩)
 apply Y; clear Y K
 refine Za zs [0, 5] fun K Y => ?_
 simp only [go_sem, seval, List.length_map]
 repeat (first | refine peel ?_ | refine ⟨by exact ⟨by simp; try omega, .inr trivial, by omega, by omega⟩, ?_⟩)
 apply Y; clear Y K
 refine Zb fun K1 hK1 => ?_
 refine Za zs [0, 5, 6] fun K Y => ?_
 simp only [go_sem, seval]
 apply Y; clear Y K
 refine Zj ?_
 refine Zz (fun T' H' n' => ∃ (i ver : Nat) (x : List UInt8), i ≤ 70 ∧ x.length = 3 + i ∧ T' = tl [(0, bys m), (5, .osl n1 ver 0 (m.length + 3 + i)), (6, .int .i64 i)] ∧ H' = H1.put n1 (some (.arr ver 1 ((m ++ x).map Zn))) ∧ n' = n1 + 1) (fun T' _ _ => 70 - iv (T' 6)) ?_ ?_
 ·exact ⟨0, 2, [201, 202, 203], by omega, rfl, rfl, by rw [List.take_of_length_le (by simp), List.map_append]; rfl, rfl⟩
 intro T1 H1 n1
 rintro ⟨i, ver, x, hi, hx, rfl, rfl, rfl⟩
 refine Zb fun K2 hK2 => ?_
 refine Za zs [0, 5, 6, 21] fun K Y => ?_
 simp only [go_sem, seval]
 apply Y; clear Y K
 refine Ze ?_ ?_ <;> intro hb
 ·have hlt : i < 70 := by have := of_decide_eq_true hb; omega
  refine Zd ?_
  simp only [go_sem, seval]
  apply hK2
  clear hK2 K2
  refine Zb fun K3 hK3 => ?_
  refine Zj ?_
  refine Zl zs [0, 5, 6] fun K Y => ?_
  simp only [go_sem, seval, List.length_map]
  repeat (first | refine peel ?_ | refine ⟨by exact ⟨by simp; try omega, .inr trivial, by omega, by omega⟩, ?_⟩)
  apply Y; clear Y K
  simp only [go_sem, seval]
  apply hK3
  clear hK3 K3
  refine Zl zs [0, 5, 6] fun K Y => ?_
  simp only [go_sem, seval]
  apply Y; clear Y K
  simp only [go_sem, seval]
  refine ⟨⟨i + 1, ver + 1, x ++ [206], by omega, by simp [hx]; omega, by rw [w1 (by omega)]; rfl, ?_⟩, by rw [w1 (by omega)]; simp; omega⟩
  rw [List.take_of_length_le (by simp [hx]; omega), ← List.append_assoc, List.map_append (l₁ := m ++ x)]; rfl
 refine ZA ?_
 simp only [go_sem, seval]
 apply hK1
 refine Za zs [4] fun K Y => ?_
 simp only [go_sem, seval, List.length_map, Option.getD_some, Option.getD_none, Int.toNat_natCast]
 repeat (first | refine peel ?_ | refine ⟨by exact ⟨by omega, by omega, fun m h => h.elim⟩, ?_⟩)
 apply Y; clear Y K
 refine Zf ?_
 simp only [go_sem, seval]
 refine ⟨_, rfl, fun k hk => by rw [if_neg (by omega)], .osl (MG _ _ _) (Nat.le_refl _) (by simp) ?_⟩
 rw [List.drop_zero, List.map_append, List.take_append_of_le_length (by simp), List.take_of_length_le (by simp)]
 exact YA _ (YE _ _)
end Go.Proofs.YtifnhpmeoogedaaGreatDoor
namespace Go.Rt
open Go Go.Sx
structure LS (H0 : Heap) (n0 : Nat) (B : List (Nat × AObj)) (kb ver M : Nat) (bs : List UInt8) (H' : Heap) (n' : Nat) : Prop where
 buf : H' kb = some (.arr ver 1 (bs.map Zn))
 keep : ∀ p ∈ B, H' p.1 = some p.2 ∧ p.1 ≠ kb ∧ p.1 < n'
 low : ∀ k, k < n0 → H' k = H0 k
 gb : n0 ≤ kb
 lb : kb < n'
 len : bs.length ≤ M
section
variable {H0 : Heap} {n0 : Nat} {B : List (Nat × AObj)} {kb ver M : Nat} {bs : List UInt8} {H1 : Heap} {n1 : Nat}
theorem LS.put (h : LS H0 n0 B kb ver M bs H1 n1) {ver' M' : Nat} {bs' : List UInt8} (hl : bs'.length ≤ M') : LS H0 n0 B kb ver' M' bs' (H1.put kb (some (.arr ver' 1 (bs'.map Zn)))) n1 where
 buf := MG _ _ _
 keep := fun p hp => by
   obtain ⟨h1, h2, h3⟩ := h.keep p hp
   exact ⟨(ME _ _ h2).trans h1, h2, h3⟩
 low := fun k hk => (ME _ _ (by have := h.gb; omega)).trans (h.low k hk)
 gb := h.gb
 lb := h.lb
 len := hl
theorem LS.on {H2 : Heap} {n2 : Nat} (h : LS H0 n0 B kb ver M bs H1 n1) (hl : ∀ k, k < n1 → H2 k = H1 k) (hn : n1 ≤ n2) : LS H0 n0 B kb ver M bs H2 n2 where
 buf := (hl _ h.lb).trans h.buf
 keep := fun p hp => by
   obtain ⟨h1, h2, h3⟩ := h.keep p hp
   exact ⟨(hl _ h3).trans h1, h2, Nat.lt_of_lt_of_le h3 hn⟩
 low := fun k hk => (hl k (by have := h.lb; have := h.gb; omega)).trans (h.low k hk)
 gb := h.gb
 lb := Nat.lt_of_lt_of_le h.lb hn
 len := h.len
theorem LS.add (h : LS H0 n0 B kb ver M bs H1 n1) {k : Nat} {o : AObj} (hk : H1 k = some o) (h2 : k ≠ kb) (h3 : k < n1) : LS H0 n0 ((k, o) :: B) kb ver M bs H1 n1 :=
 ⟨h.buf, fun p hp => by
     rcases List.mem_cons.1 hp with rfl | hp
     ·exact ⟨hk, h2, h3⟩
     ·exact h.keep p hp, h.low, h.gb, h.lb, h.len⟩
theorem LS.lu (h : LS H0 n0 B kb ver M bs H1 n1) (x : Int) : (bs ++ Zm (u64 x)).length ≤ M + 10 := by
 have h1 := h.len; have h2 := ZL (Xg x)
 rw [List.length_append]; omega
theorem LS.lby (h : LS H0 n0 B kb ver M bs H1 n1) (x : List UInt8) (hx : x.length ≤ 1099511627776) : (bs ++ Zp x).length ≤ M + 10 + x.length := by
 have h1 := h.len; have h2 := ZL (v := x.length) (by omega)
 rw [List.length_append]; simp only [Zp, List.length_append]; omega
theorem LS.l1 (h : LS H0 n0 B kb ver M bs H1 n1) (x : List UInt8) : (bs ++ x).length ≤ M + x.length := by
 have h1 := h.len
 rw [List.length_append]; omega
theorem LS.drop {p : Nat × AObj} (h : LS H0 n0 (p :: B) kb ver M bs H1 n1) : LS H0 n0 B kb ver M bs H1 n1 := { h with keep := fun q hq => h.keep q (List.mem_cons_of_mem _ hq) }
theorem LS.get (h : LS H0 n0 B kb ver M bs H1 n1) (k : Nat) (o : AObj) (hm : (k, o) ∈ B) : H1 k = some o := (h.keep (k, o) hm).1
theorem LS.up {M' : Nat} (h : LS H0 n0 B kb ver M bs H1 n1) (hM : M ≤ M') : LS H0 n0 B kb ver M' bs H1 n1 := { h with len := Nat.le_trans h.len hM }
theorem LS.newObj (h : LS H0 n0 B kb ver M bs H1 n1) (o : AObj) : LS H0 n0 ((n1, o) :: B) kb ver M bs (H1.put n1 (some o)) (n1 + 1) :=
 (h.on (fun k hk => ME _ _ (by omega)) (by omega)).add (MG _ _ _) (by have := h.lb; omega) (by omega)
end
theorem Z6 {P : Program} {N : Nat} {code : Code} {T : Nat → AV} {H : Heap} {n : Nat} {Q : AEx → (Nat → AV) → Heap → Nat → Prop} (Φ : (Nat → AV) → Heap → Nat → Prop) (h0 : Φ T H n) (h : ∀ T H n, Φ T H n → awp P N code T H n Q) : awp P N code T H n Q := h T H n h0
end Go.Rt
namespace Go.Proofs.YtifnhpmeoogedaaGreatDoor
open Go Go.Sx Go.Rt Go.Proofs Tryz
set_option maxRecDepth 100000 in
set_option maxHeartbeats 6400000 in
theorem Qa (c : CmdE) (hc : c.fits) (h1 : 1 ≤ c.kind) (h7 : c.kind ≤ 7) (H : Heap) (n : Nat) : Ret prog 63 [Zh c] H n (bys (cmdB c)) H n := by
 have hsz := Yj c.q
 have haq : (Zq c.q).isAgg = true := rfl
 have hmq : (Zq c.q).memOK = true := rfl
 have huc : u64 (c.conds.length : Int) = c.conds.length := XD _ (by have := hc.conds; omega)
 have huo : u64 (c.ops.length : Int) = c.ops.length := XD _ (by have := hc.ops; omega)
 have huf : u64 (c.q.fams.length : Int) = c.q.fams.length := XD _ (by have := hc.fams; omega)
 have r1 : (0 : Nat) = 0 := rfl
 have r6 := r1
 have rB := r1
 refine Ret.fin ?_
 refine Zc func63 rfl ntmps63 (congrArg Array.toList results63) (by simp) ?_
 simp only [go_sem]
 refine Za zs [1] fun K Y => ?_
 simp only [go_sem, seval, Zh, hsz, bys]
 apply Y; clear Y K
 refine Za zo [1, 3] fun K Y => ?_
 simp only [go_sem, seval, Y3]
 repeat (first | refine peel ?_ | refine ⟨by exact ⟨rfl, by simp [AV.sz, AV.memOK]⟩, ?_⟩)
 apply Y; clear Y K
 refine Zb fun K1 hK1 => ?_
 refine Z6 (fun T' H' n' => ∃ ver bs, bs = [ZW c.kind] ∧ T' = tl [(1, .loc n 0 0 0 []), (3, .osl (n + 1) ver 0 bs.length)] ∧ LS H n [(n, .arr 0 17 [Zh c])] (n + 1) ver (1) bs H' n') ⟨_, [ZW c.kind], rfl, rfl, by refine ⟨by simp [Heap.put]; rfl, fun p hp => ?_, fun k hk => ?_, by omega, by omega, by simp⟩; { rw [List.mem_singleton.1 hp]; exact ⟨by simp [Heap.put, Zh, bys], by simp, by simp; try omega⟩ }; { simp only [MF]; repeat rw [if_neg (by omega)] }⟩ ?_
 rintro T1 H1 n1 ⟨ver, bs, hbs, rfl, hS⟩
 have r1 := hS.get n (.arr 0 17 [Zh c]) (by simp); have rB := hS.buf
 refine Za zs [1, 3, 16] fun K Y => ?_
 simp only [go_sem, seval, Zh, r1, bys]
 apply Y; clear Y K
 refine Ze ?_ ?_ <;> intro hb
 ·have hk3 : c.kind < 3 := of_decide_eq_true hb
  have hfin : bs = cmdB c := by rw [hbs, VT h1 h7]; have : c.kind = 1 ∨ c.kind = 2 := (by omega); rcases this with h | h <;> simp [hdrB, h, ZQ, YQ, kOps, Yn, Yd]
  refine Za zs [2] fun K Y => ?_
  simp only [go_sem, seval]
  apply Y; clear Y K
  refine Zf ?_
  simp only [go_sem, seval]
  refine ⟨_, rfl, hS.low, .osl hS.buf (by omega) (by simp) ?_⟩
  rw [List.drop_zero, List.take_of_length_le (by simp), hfin]
  exact YA _ (YE _ _)
 have hk3 : ¬ c.kind < 3 := of_decide_eq_false hb
 have hcf : (ZQ c.kind || YQ c.kind) = true := by simp [ZQ, YQ]; omega
 refine Zd ?_
 simp only [go_sem, seval]
 apply hK1
 clear hK1 K1
 refine Za zs [1, 3] fun K Y => ?_
 simp only [go_sem, seval, Zh, r1, bys]
 refine Zg func88 rfl rfl rfl ((YM hS.buf (c.client) (by have := hS.len; have := hc.row; have := hc.frm; have := hc.to; have := hc.pre; have := hc.whr; have := hc.token; have := hc.conds; have := hc.ops; have := hc.fams; omega))) ?_
 simp only [go_sem, seval]
 apply Y; clear Y K
 refine Z6 (fun T' H' n' => ∃ ver bs, bs = [ZW c.kind] ++ Zm (u64 c.client) ∧ T' = tl [(1, .loc n 0 0 0 []), (3, .osl (n + 1) ver 0 bs.length)] ∧ LS H n [(n, .arr 0 17 [Zh c])] (n + 1) ver (11) bs H' n') ⟨_, bs ++ Zm (u64 c.client), by rw [hbs], rfl, ((hS.put (hS.lu (c.client))).up (by have := hc.row; have := hc.frm; have := hc.to; have := hc.pre; have := hc.whr; have := hc.token; have := hc.conds; have := hc.ops; have := hc.fams; omega))⟩ ?_
 rintro T1 H1 n1 ⟨ver, bs, hbs, rfl, hS⟩
 have r1 := hS.get n (.arr 0 17 [Zh c]) (by simp); have rB := hS.buf
 refine Za zs [1, 3] fun K Y => ?_
 simp only [go_sem, seval, Zh, r1, bys]
 refine Zg func88 rfl rfl rfl ((YM hS.buf (c.serial) (by have := hS.len; have := hc.row; have := hc.frm; have := hc.to; have := hc.pre; have := hc.whr; have := hc.token; have := hc.conds; have := hc.ops; have := hc.fams; omega))) ?_
 simp only [go_sem, seval]
 apply Y; clear Y K
 refine Zb fun K2 hK2 => ?_
 refine Z6 (fun T' H' n' => ∃ ver bs, bs = hdrB c ∧ T' = tl [(1, .loc n 0 0 0 []), (3, .osl (n + 1) ver 0 bs.length)] ∧ LS H n [(n, .arr 0 17 [Zh c])] (n + 1) ver (21) bs H' n') ⟨_, bs ++ Zm (u64 c.serial), by rw [hbs]; simp [hdrB, hcf], rfl, ((hS.put (hS.lu (c.serial))).up (by have := hc.row; have := hc.frm; have := hc.to; have := hc.pre; have := hc.whr; have := hc.token; have := hc.conds; have := hc.ops; have := hc.fams; omega))⟩ ?_
 rintro T1 H1 n1 ⟨ver, bs, hbs, rfl, hS⟩
 have r1 := hS.get n (.arr 0 17 [Zh c]) (by simp); have rB := hS.buf
 refine Za zs [1, 3, 27] fun K Y => ?_
 simp only [go_sem, seval, Zh, r1, bys]
 apply Y; clear Y K
 refine Zj ?_
 refine Za zs [1, 3, 27, 28] fun K Y => ?_
 simp only [go_sem, seval]
 apply Y; clear Y K
 refine Ze ?_ ?_ <;> intro hb
 ·have h4 : c.kind = 4 := by simpa using hb
  refine Za zs [1, 3] fun K Y => ?_
  simp only [go_sem, seval, Zh, r1, bys]
  refine Zg func90 rfl rfl rfl ((YX hS.buf (c.row) (by have := hc.row; have := hc.frm; have := hc.to; have := hc.pre; have := hc.whr; have := hc.token; have := hc.conds; have := hc.ops; have := hc.fams; omega) (by have := hS.len; have := hc.row; have := hc.frm; have := hc.to; have := hc.pre; have := hc.whr; have := hc.token; have := hc.conds; have := hc.ops; have := hc.fams; omega))) ?_
  simp only [go_sem, seval]
  apply Y; clear Y K
  refine Z6 (fun T' H' n' => ∃ ver bs, bs = hdrB c ++ Zp c.row ∧ T' = tl [(1, .loc n 0 0 0 []), (3, .osl (n + 1) ver 0 bs.length)] ∧ LS H n [(n, .arr 0 17 [Zh c])] (n + 1) ver (1100000) bs H' n') ⟨_, bs ++ Zp c.row, by rw [hbs], rfl, ((hS.put (hS.lby (c.row) (by have := hc.row; have := hc.frm; have := hc.to; have := hc.pre; have := hc.whr; have := hc.token; have := hc.conds; have := hc.ops; have := hc.fams; omega))).up (by have := hc.row; have := hc.frm; have := hc.to; have := hc.pre; have := hc.whr; have := hc.token; have := hc.conds; have := hc.ops; have := hc.fams; omega))⟩ ?_
  rintro T1 H1 n1 ⟨ver, bs, hbs, rfl, hS⟩
  have r1 := hS.get n (.arr 0 17 [Zh c]) (by simp); have rB := hS.buf
  refine Za zs [1, 3] fun K Y => ?_
  simp only [go_sem, seval, Zh, r1, List.length_map, bys]
  refine Zg func88 rfl rfl rfl ((YM hS.buf (c.conds.length) (by have := hS.len; have := hc.row; have := hc.frm; have := hc.to; have := hc.pre; have := hc.whr; have := hc.token; have := hc.conds; have := hc.ops; have := hc.fams; omega))) ?_
  simp only [go_sem, seval]
  apply Y; clear Y K
  refine Zb fun K3 hK3 => ?_
  refine Z6 (fun T' H' n' => ∃ ver bs, bs = hdrB c ++ Zp c.row ++ Zm c.conds.length ∧ T' = tl [(1, .loc n 0 0 0 []), (3, .osl (n + 1) ver 0 bs.length)] ∧ LS H n [(n, .arr 0 17 [Zh c])] (n + 1) ver (1100010) bs H' n') ⟨_, bs ++ Zm (u64 c.conds.length), by rw [hbs, huc], rfl, ((hS.put (hS.lu (c.conds.length))).up (by have := hc.row; have := hc.frm; have := hc.to; have := hc.pre; have := hc.whr; have := hc.token; have := hc.conds; have := hc.ops; have := hc.fams; omega))⟩ ?_
  rintro T1 H1 n1 ⟨ver, bs, hbs, rfl, hS⟩
  have r1 := hS.get n (.arr 0 17 [Zh c]) (by simp); have rB := hS.buf
  refine Za zs [1, 3, 4] fun K Y => ?_
  simp only [go_sem, seval]
  apply Y; clear Y K
  refine Zj ?_
  refine Zz (fun T' H' n' => ∃ i : Nat, i ≤ c.conds.length ∧ ∃ ver bs, bs = hdrB c ++ Zp c.row ++ Zm c.conds.length ++ (c.conds.take i).flatMap YB ∧ T' = tl [(1, .loc n 0 0 0 []), (3, .osl (n + 1) ver 0 bs.length), (4, .int .i64 i)] ∧ LS H n [(n, .arr 0 17 [Zh c])] (n + 1) ver (1100100 + 2100000 * i) bs H' n') (fun T' _ _ => c.conds.length - iv (T' 4)) ?_ ?_
  ·exact ⟨0, by omega, ver, bs, by rw [hbs]; simp, rfl, hS.up (by omega)⟩
  intro T1 H1 n1
  rintro ⟨i, hi, ver, bs, hbs, rfl, hS⟩
  have r1 := hS.get n (.arr 0 17 [Zh c]) (by simp); have rB := hS.buf
  refine Zb fun K4 hK4 => ?_
  refine Za zs [1, 3, 4, 43] fun K Y => ?_
  simp only [go_sem, seval, Zh, r1, List.length_map, bys]
  apply Y; clear Y K
  refine Ze ?_ ?_ <;> intro hb
  ·have hlt : i < c.conds.length := by have := of_decide_eq_true hb; omega
   have hfl := Xd YB c.conds hlt
   have hmem := X8 c.conds hlt
   have hnth : nth (c.conds.map Zu) i = Zu (c.conds.getD i default) := ZF Zu c.conds i hlt
   generalize c.conds.getD i default = x at *
   have hx := hc.cond x hmem
   have hil := hc.conds
   have hszx : (Zu x).sz = 4 := rfl
   have hagx : (Zu x).isAgg = true := rfl
   have hmox : (Zu x).memOK = true := rfl
   refine Zd ?_
   simp only [go_sem, seval, Zh, bys]
   apply hK4
   clear hK4 K4
   refine Zb fun K5 hK5 => ?_
   refine Zj ?_
   refine Za zs [1, 3, 4, 5] fun K Y => ?_
   simp only [go_sem, seval, Zh, r1, List.length_map, bys, Int.toNat_natCast, hnth, hszx, hagx, hmox]
   repeat refine peel ?_
   apply Y; clear Y K
   refine Z6 (fun T' H' n' => ∃ kx ver bs, bs = hdrB c ++ Zp c.row ++ Zm c.conds.length ++ (c.conds.take i).flatMap YB ∧ T' = tl [(1, .loc n 0 0 0 []), (3, .osl (n + 1) ver 0 bs.length), (4, .int .i64 i), (5, .loc kx 0 0 0 [])] ∧ LS H n [(kx, .arr 0 4 [Zu x]), (n, .arr 0 17 [Zh c])] (n + 1) ver (1100100 + 2100000 * i) bs H' n') ⟨n1, ver, bs, hbs, rfl, hS.newObj _⟩ ?_
   rintro T1 H1 n1 ⟨kx, ver, bs, hbs, rfl, hS⟩
   have r1 := hS.get n (.arr 0 17 [Zh c]) (by simp); have rB := hS.buf
   have r6 := hS.get kx (.arr 0 4 [Zu x]) (by simp)
   refine Za zs [1, 3, 4, 5] fun K Y => ?_
   simp only [go_sem, seval, Zh, r6, rB, List.length_map, bys, Y3, Zu]
   repeat (first | refine peel ?_ | (refine And.intro ?_ ?_; · first | exact ⟨rfl, by simp [AV.sz, AV.memOK]⟩ | exact ⟨by simp, .inr trivial, by have := hS.len; omega, by have := hS.len; omega⟩))
   apply Y; clear Y K
   refine Z6 (fun T' H' n' => ∃ ver bs, bs = hdrB c ++ Zp c.row ++ Zm c.conds.length ++ (c.conds.take i).flatMap YB ++ [ZW x.kind, ZW x.fam] ∧ T' = tl [(1, .loc n 0 0 0 []), (3, .osl (n + 1) ver 0 bs.length), (4, .int .i64 i), (5, .loc kx 0 0 0 [])] ∧ LS H n [(kx, .arr 0 4 [Zu x]), (n, .arr 0 17 [Zh c])] (n + 1) ver (1100100 + 2100000 * i + 2) bs H' n') ⟨_, bs ++ [ZW x.kind, ZW x.fam], by rw [hbs], by rw [List.length_append]; rfl, (by have h9 := hS.put (ver' := ver + 1) (hS.l1 [ZW x.kind, ZW x.fam]); rw [List.map_append] at h9; rw [List.take_of_length_le (by simp)]; exact h9.up (by simp))⟩ ?_
   rintro T1 H1 n1 ⟨ver, bs, hbs, rfl, hS⟩
   have r1 := hS.get n (.arr 0 17 [Zh c]) (by simp); have rB := hS.buf
   have r6 := hS.get kx (.arr 0 4 [Zu x]) (by simp)
   refine Za zs [1, 3, 4, 5] fun K Y => ?_
   simp only [go_sem, seval, Zh, r6, bys, Zu]
   refine Zg func90 rfl rfl rfl ((YX hS.buf (x.qual) (by omega) (by have := hS.len; have := hc.row; have := hc.frm; have := hc.to; have := hc.pre; have := hc.whr; have := hc.token; have := hc.conds; have := hc.ops; have := hc.fams; omega))) ?_
   simp only [go_sem, seval]
   apply Y; clear Y K
   refine Z6 (fun T' H' n' => ∃ ver bs, bs = hdrB c ++ Zp c.row ++ Zm c.conds.length ++ (c.conds.take i).flatMap YB ++ [ZW x.kind, ZW x.fam] ++ Zp x.qual ∧ T' = tl [(1, .loc n 0 0 0 []), (3, .osl (n + 1) ver 0 bs.length), (4, .int .i64 i), (5, .loc kx 0 0 0 [])] ∧ LS H n [(kx, .arr 0 4 [Zu x]), (n, .arr 0 17 [Zh c])] (n + 1) ver (1100100 + 2100000 * i + 1048602) bs H' n') ⟨_, bs ++ Zp x.qual, by rw [hbs], rfl, ((hS.put (hS.lby (x.qual) (by omega))).up (by omega))⟩ ?_
   rintro T1 H1 n1 ⟨ver, bs, hbs, rfl, hS⟩
   have r1 := hS.get n (.arr 0 17 [Zh c]) (by simp); have rB := hS.buf
   have r6 := hS.get kx (.arr 0 4 [Zu x]) (by simp)
   refine Zl zs [1, 3, 4] fun K Y => ?_
   simp only [go_sem, seval, Zh, r6, bys, Zu]
   refine Zg func90 rfl rfl rfl ((YX hS.buf (x.value) (by omega) (by have := hS.len; have := hc.row; have := hc.frm; have := hc.to; have := hc.pre; have := hc.whr; have := hc.token; have := hc.conds; have := hc.ops; have := hc.fams; omega))) ?_
   simp only [go_sem, seval]
   apply Y; clear Y K
   simp only [go_sem, seval, Zh, bys]
   apply hK5
   clear hK5 K5
   refine Z6 (fun T' H' n' => ∃ ver bs, bs = hdrB c ++ Zp c.row ++ Zm c.conds.length ++ (c.conds.take i).flatMap YB ++ [ZW x.kind, ZW x.fam] ++ Zp x.qual ++ Zp x.value ∧ T' = tl [(1, .loc n 0 0 0 []), (3, .osl (n + 1) ver 0 bs.length), (4, .int .i64 i)] ∧ LS H n [(kx, .arr 0 4 [Zu x]), (n, .arr 0 17 [Zh c])] (n + 1) ver (1100100 + 2100000 * i + 2097202) bs H' n') ⟨_, bs ++ Zp x.value, by rw [hbs], rfl, ((hS.put (hS.lby (x.value) (by omega))).up (by omega))⟩ ?_
   rintro T1 H1 n1 ⟨ver, bs, hbs, rfl, hS⟩
   have r1 := hS.get n (.arr 0 17 [Zh c]) (by simp); have rB := hS.buf
   refine Zl zs [1, 3, 4] fun K Y => ?_
   simp only [go_sem, seval, Zh, bys]
   apply Y; clear Y K
   simp only [go_sem, seval, Zh, bys]
   refine ⟨⟨i + 1, by omega, ver, bs, by rw [hbs, hfl]; simp [YB], by rw [w1 (by omega)], hS.drop.up (by omega)⟩, by rw [w1 (by omega)]; simp; omega⟩
  have hge : i = c.conds.length := by have := of_decide_eq_false hb; omega
  rw [Xp YB c.conds (by omega)] at hbs
  have hil := hc.conds
  have r1 := hS.get n (.arr 0 17 [Zh c]) (by simp); have rB := hS.buf
  refine ZA ?_
  simp only [go_sem, seval, Zh, bys]
  apply hK3
  refine Za zs [1, 3] fun K Y => ?_
  simp only [go_sem, seval, Zh, r1, List.length_map, bys]
  refine Zg func88 rfl rfl rfl ((YM hS.buf (c.ops.length) (by have := hS.len; have := hc.row; have := hc.frm; have := hc.to; have := hc.pre; have := hc.whr; have := hc.token; have := hc.conds; have := hc.ops; have := hc.fams; omega))) ?_
  simp only [go_sem, seval]
  apply Y; clear Y K
  refine Z6 (fun T' H' n' => ∃ ver bs, bs = hdrB c ++ Zp c.row ++ Zm c.conds.length ++ c.conds.flatMap YB ++ Zm c.ops.length ∧ T' = tl [(1, .loc n 0 0 0 []), (3, .osl (n + 1) ver 0 bs.length)] ∧ LS H n [(n, .arr 0 17 [Zh c])] (n + 1) ver (2300000000000) bs H' n') ⟨_, bs ++ Zm (u64 c.ops.length), by rw [hbs, huo], rfl, ((hS.put (hS.lu (c.ops.length))).up (by omega))⟩ ?_
  rintro T1 H1 n1 ⟨ver, bs, hbs, rfl, hS⟩
  have r1 := hS.get n (.arr 0 17 [Zh c]) (by simp); have rB := hS.buf
  refine Za zs [1, 3, 6] fun K Y => ?_
  simp only [go_sem, seval]
  apply Y; clear Y K
  refine Zj ?_
  refine Zz (fun T' H' n' => ∃ i : Nat, i ≤ c.ops.length ∧ ∃ ver bs, bs = hdrB c ++ Zp c.row ++ Zm c.conds.length ++ c.conds.flatMap YB ++ Zm c.ops.length ++ (c.ops.take i).flatMap opB ∧ T' = tl [(1, .loc n 0 0 0 []), (3, .osl (n + 1) ver 0 bs.length), (6, .int .i64 i)] ∧ LS H n [(n, .arr 0 17 [Zh c])] (n + 1) ver (2300000000100 + 2100000 * i) bs H' n') (fun T' _ _ => c.ops.length - iv (T' 6)) ?_ ?_
  ·exact ⟨0, by omega, ver, bs, by rw [hbs]; simp, rfl, hS.up (by omega)⟩
  intro T1 H1 n1
  rintro ⟨i, hi, ver, bs, hbs, rfl, hS⟩
  have r1 := hS.get n (.arr 0 17 [Zh c]) (by simp); have rB := hS.buf
  refine Zb fun K6 hK6 => ?_
  refine Za zs [1, 3, 6, 77] fun K Y => ?_
  simp only [go_sem, seval, Zh, r1, List.length_map, bys]
  apply Y; clear Y K
  refine Ze ?_ ?_ <;> intro hb
  ·have hlt : i < c.ops.length := by have := of_decide_eq_true hb; omega
   have hfl := Xd opB c.ops hlt
   have hmem := X8 c.ops hlt
   have hnth : nth (c.ops.map opAV) i = opAV (c.ops.getD i default) := ZF opAV c.ops i hlt
   generalize c.ops.getD i default = x at *
   have hx := hc.op x hmem
   have hil := hc.ops
   have hszx : (opAV x).sz = 6 := rfl
   have hagx : (opAV x).isAgg = true := rfl
   have hmox : (opAV x).memOK = true := rfl
   refine Zd ?_
   simp only [go_sem, seval, Zh, bys]
   apply hK6
   clear hK6 K6
   refine Zb fun K7 hK7 => ?_
   refine Zj ?_
   refine Za zs [1, 3, 6, 7] fun K Y => ?_
   simp only [go_sem, seval, Zh, r1, List.length_map, bys, Int.toNat_natCast, hnth, hszx, hagx, hmox]
   repeat refine peel ?_
   apply Y; clear Y K
   refine Z6 (fun T' H' n' => ∃ kx ver bs, bs = hdrB c ++ Zp c.row ++ Zm c.conds.length ++ c.conds.flatMap YB ++ Zm c.ops.length ++ (c.ops.take i).flatMap opB ∧ T' = tl [(1, .loc n 0 0 0 []), (3, .osl (n + 1) ver 0 bs.length), (6, .int .i64 i), (7, .loc kx 0 0 0 [])] ∧ LS H n [(kx, .arr 0 6 [opAV x]), (n, .arr 0 17 [Zh c])] (n + 1) ver (2300000000100 + 2100000 * i) bs H' n') ⟨n1, ver, bs, hbs, rfl, hS.newObj _⟩ ?_
   rintro T1 H1 n1 ⟨kx, ver, bs, hbs, rfl, hS⟩
   have r1 := hS.get n (.arr 0 17 [Zh c]) (by simp); have rB := hS.buf
   have r6 := hS.get kx (.arr 0 6 [opAV x]) (by simp)
   refine Za zs [1, 3, 6, 7] fun K Y => ?_
   simp only [go_sem, seval, Zh, r6, rB, List.length_map, bys, Y3, opAV]
   repeat (first | refine peel ?_ | (refine And.intro ?_ ?_; · first | exact ⟨rfl, by simp [AV.sz, AV.memOK]⟩ | exact ⟨by simp, .inr trivial, by have := hS.len; omega, by have := hS.len; omega⟩))
   apply Y; clear Y K
   refine Z6 (fun T' H' n' => ∃ ver bs, bs = hdrB c ++ Zp c.row ++ Zm c.conds.length ++ c.conds.flatMap YB ++ Zm c.ops.length ++ (c.ops.take i).flatMap opB ++ [ZW x.kind, ZW x.fam] ∧ T' = tl [(1, .loc n 0 0 0 []), (3, .osl (n + 1) ver 0 bs.length), (6, .int .i64 i), (7, .loc kx 0 0 0 [])] ∧ LS H n [(kx, .arr 0 6 [opAV x]), (n, .arr 0 17 [Zh c])] (n + 1) ver (2300000000100 + 2100000 * i + 2) bs H' n') ⟨_, bs ++ [ZW x.kind, ZW x.fam], by rw [hbs], by rw [List.length_append]; rfl, (by have h9 := hS.put (ver' := ver + 1) (hS.l1 [ZW x.kind, ZW x.fam]); rw [List.map_append] at h9; rw [List.take_of_length_le (by simp)]; exact h9.up (by simp))⟩ ?_
   rintro T1 H1 n1 ⟨ver, bs, hbs, rfl, hS⟩
   have r1 := hS.get n (.arr 0 17 [Zh c]) (by simp); have rB := hS.buf
   have r6 := hS.get kx (.arr 0 6 [opAV x]) (by simp)
   refine Za zs [1, 3, 6, 7] fun K Y => ?_
   simp only [go_sem, seval, Zh, r6, bys, opAV]
   refine Zg func90 rfl rfl rfl ((YX hS.buf (x.qual) (by omega) (by have := hS.len; have := hc.row; have := hc.frm; have := hc.to; have := hc.pre; have := hc.whr; have := hc.token; have := hc.conds; have := hc.ops; have := hc.fams; omega))) ?_
   simp only [go_sem, seval]
   apply Y; clear Y K
   refine Z6 (fun T' H' n' => ∃ ver bs, bs = hdrB c ++ Zp c.row ++ Zm c.conds.length ++ c.conds.flatMap YB ++ Zm c.ops.length ++ (c.ops.take i).flatMap opB ++ [ZW x.kind, ZW x.fam] ++ Zp x.qual ∧ T' = tl [(1, .loc n 0 0 0 []), (3, .osl (n + 1) ver 0 bs.length), (6, .int .i64 i), (7, .loc kx 0 0 0 [])] ∧ LS H n [(kx, .arr 0 6 [opAV x]), (n, .arr 0 17 [Zh c])] (n + 1) ver (2300000000100 + 2100000 * i + 1048602) bs H' n') ⟨_, bs ++ Zp x.qual, by rw [hbs], rfl, ((hS.put (hS.lby (x.qual) (by omega))).up (by omega))⟩ ?_
   rintro T1 H1 n1 ⟨ver, bs, hbs, rfl, hS⟩
   have r1 := hS.get n (.arr 0 17 [Zh c]) (by simp); have rB := hS.buf
   have r6 := hS.get kx (.arr 0 6 [opAV x]) (by simp)
   refine Za zs [1, 3, 6, 7] fun K Y => ?_
   simp only [go_sem, seval, Zh, r6, bys, opAV]
   refine Zg func88 rfl rfl rfl ((YM hS.buf (x.ts) (by have := hS.len; have := hc.row; have := hc.frm; have := hc.to; have := hc.pre; have := hc.whr; have := hc.token; have := hc.conds; have := hc.ops; have := hc.fams; omega))) ?_
   simp only [go_sem, seval]
   apply Y; clear Y K
   refine Z6 (fun T' H' n' => ∃ ver bs, bs = hdrB c ++ Zp c.row ++ Zm c.conds.length ++ c.conds.flatMap YB ++ Zm c.ops.length ++ (c.ops.take i).flatMap opB ++ [ZW x.kind, ZW x.fam] ++ Zp x.qual ++ Zm (u64 x.ts) ∧ T' = tl [(1, .loc n 0 0 0 []), (3, .osl (n + 1) ver 0 bs.length), (6, .int .i64 i), (7, .loc kx 0 0 0 [])] ∧ LS H n [(kx, .arr 0 6 [opAV x]), (n, .arr 0 17 [Zh c])] (n + 1) ver (2300000000100 + 2100000 * i + 1048612) bs H' n') ⟨_, bs ++ Zm (u64 x.ts), by rw [hbs], rfl, ((hS.put (hS.lu (x.ts))).up (by omega))⟩ ?_
   rintro T1 H1 n1 ⟨ver, bs, hbs, rfl, hS⟩
   have r1 := hS.get n (.arr 0 17 [Zh c]) (by simp); have rB := hS.buf
   have r6 := hS.get kx (.arr 0 6 [opAV x]) (by simp)
   refine Za zs [1, 3, 6, 7] fun K Y => ?_
   simp only [go_sem, seval, Zh, r6, bys, opAV]
   refine Zg func90 rfl rfl rfl ((YX hS.buf (x.value) (by omega) (by have := hS.len; have := hc.row; have := hc.frm; have := hc.to; have := hc.pre; have := hc.whr; have := hc.token; have := hc.conds; have := hc.ops; have := hc.fams; omega))) ?_
   simp only [go_sem, seval]
   apply Y; clear Y K
   refine Z6 (fun T' H' n' => ∃ ver bs, bs = hdrB c ++ Zp c.row ++ Zm c.conds.length ++ c.conds.flatMap YB ++ Zm c.ops.length ++ (c.ops.take i).flatMap opB ++ [ZW x.kind, ZW x.fam] ++ Zp x.qual ++ Zm (u64 x.ts) ++ Zp x.value ∧ T' = tl [(1, .loc n 0 0 0 []), (3, .osl (n + 1) ver 0 bs.length), (6, .int .i64 i), (7, .loc kx 0 0 0 [])] ∧ LS H n [(kx, .arr 0 6 [opAV x]), (n, .arr 0 17 [Zh c])] (n + 1) ver (2300000000100 + 2100000 * i + 2097212) bs H' n') ⟨_, bs ++ Zp x.value, by rw [hbs], rfl, ((hS.put (hS.lby (x.value) (by omega))).up (by omega))⟩ ?_
   rintro T1 H1 n1 ⟨ver, bs, hbs, rfl, hS⟩
   have r1 := hS.get n (.arr 0 17 [Zh c]) (by simp); have rB := hS.buf
   have r6 := hS.get kx (.arr 0 6 [opAV x]) (by simp)
   refine Zl zs [1, 3, 6] fun K Y => ?_
   simp only [go_sem, seval, Zh, r6, bys, opAV]
   refine Zg func126 rfl rfl rfl ((c_ref14_delta x.delta _ _)) ?_
   simp only [go_sem, seval, rB, List.length_map, bys]
   repeat (first | refine peel ?_ | refine ⟨by exact ⟨by simp, .inr trivial, by rw [WM]; have := hS.len; omega, by rw [WM]; have := hS.len; omega⟩, ?_⟩)
   apply Y; clear Y K
   simp only [go_sem, seval, Zh, bys]
   apply hK7
   clear hK7 K7
   refine Z6 (fun T' H' n' => ∃ ver bs, bs = hdrB c ++ Zp c.row ++ Zm c.conds.length ++ c.conds.flatMap YB ++ Zm c.ops.length ++ (c.ops.take i).flatMap opB ++ [ZW x.kind, ZW x.fam] ++ Zp x.qual ++ Zm (u64 x.ts) ++ Zp x.value ++ XO x.delta ∧ T' = tl [(1, .loc n 0 0 0 []), (3, .osl (n + 1) ver 0 bs.length), (6, .int .i64 i)] ∧ LS H n [(kx, .arr 0 6 [opAV x]), (n, .arr 0 17 [Zh c])] (n + 1) ver (2300000000100 + 2100000 * i + 2097220) bs H' n') ⟨_, bs ++ XO x.delta, by rw [hbs], by rw [List.length_append], (by have h9 := hS.put (ver' := ver + 1) (hS.l1 (XO x.delta)); rw [List.map_append] at h9; rw [List.take_of_length_le (by simp)]; exact h9.up (by rw [WM]; omega))⟩ ?_
   rintro T1 H1 n1 ⟨ver, bs, hbs, rfl, hS⟩
   have r1 := hS.get n (.arr 0 17 [Zh c]) (by simp); have rB := hS.buf
   refine Zl zs [1, 3, 6] fun K Y => ?_
   simp only [go_sem, seval, Zh, bys]
   apply Y; clear Y K
   simp only [go_sem, seval, Zh, bys]
   refine ⟨⟨i + 1, by omega, ver, bs, by rw [hbs, hfl]; simp [opB], by rw [w1 (by omega)], hS.drop.up (by omega)⟩, by rw [w1 (by omega)]; simp; omega⟩
  have hge : i = c.ops.length := by have := of_decide_eq_false hb; omega
  rw [Xp opB c.ops (by omega)] at hbs
  have hil := hc.ops
  have r1 := hS.get n (.arr 0 17 [Zh c]) (by simp); have rB := hS.buf
  have hfin : bs = cmdB c := by rw [hbs, VT h1 h7]; simp [h4, kOps, Yn, Yd, mutB]
  refine ZA ?_
  simp only [go_sem, seval, Zh, bys]
  apply hK2
  refine YR [3] ?_
  simp only [go_sem, seval]
  refine Z6 (fun T' H' n' => ∃ ver bs, bs = cmdB c ∧ T' = tl [(3, .osl (n + 1) ver 0 bs.length)] ∧ LS H n [(n, .arr 0 17 [Zh c])] (n + 1) ver (7000200000000) bs H' n') ⟨_, bs, hfin, rfl, hS.up (by have := hc.row; have := hc.frm; have := hc.to; have := hc.pre; have := hc.whr; have := hc.token; have := hc.conds; have := hc.ops; have := hc.fams; omega)⟩ ?_
  rintro T1 H1 n1 ⟨ver, bs, hfin, rfl, hS⟩
  refine Za zs [2] fun K Y => ?_
  simp only [go_sem, seval]
  apply Y; clear Y K
  refine Zf ?_
  simp only [go_sem, seval]
  refine ⟨_, rfl, hS.low, .osl hS.buf (by omega) (by simp) ?_⟩
  rw [List.drop_zero, List.take_of_length_le (by simp), hfin]
  exact YA _ (YE _ _)
 have h4 : ¬ c.kind = 4 := by simpa using hb
 refine Yi [1, 3, 27, 111] (fun T' H' n' => ∃ ver bs, bs = hdrB c ∧ T' = tl [(1, .loc n 0 0 0 []), (3, .osl (n + 1) ver 0 bs.length), (27, .int .i64 c.kind), (111, .bool (c.kind == 5 || c.kind == 6))] ∧ LS H n [(n, .arr 0 17 [Zh c])] (n + 1) ver (21) bs H' n') ?_ ?_
 ·refine Za zs [1, 3, 27, 111] fun K Y => ?_
  simp only [go_sem, seval, Zh, bys]
  apply Y; clear Y K
  refine Ze ?_ ?_ <;> intro hb
  ·try have hfin : bs ++ Zm (u64 c.n) = cmdB c := by rw [hbs, VT h1 h7]; have h56 : c.kind = 5 ∨ c.kind = 6 := (by simpa using hb); rcases h56 with h | h <;> simp [h, kOps, Yn, Yd]
   refine Zd ?_
   simp only [go_sem, seval, Zh, bys]
   exact ⟨ver, bs, hbs, by simp [hb], hS⟩
  refine Zl zs [1, 3, 27, 111] fun K Y => ?_
  simp only [go_sem, seval, Zh, bys]
  apply Y; clear Y K
  simp only [go_sem, seval, Zh, bys]
  exact ⟨ver, bs, hbs, by simp [hb], hS⟩
 rintro T1 H1 n1 ⟨ver, bs, hbs, rfl, hS⟩
 have r1 := hS.get n (.arr 0 17 [Zh c]) (by simp); have rB := hS.buf
 refine Ze ?_ ?_ <;> intro hb
 ·try have hfin : bs ++ Zm (u64 c.n) = cmdB c := by rw [hbs, VT h1 h7]; have h56 : c.kind = 5 ∨ c.kind = 6 := (by simpa using hb); rcases h56 with h | h <;> simp [h, kOps, Yn, Yd]
  refine Zl zs [3] fun K Y => ?_
  simp only [go_sem, seval, Zh, r1, bys]
  refine Zg func88 rfl rfl rfl ((YM hS.buf (c.n) (by have := hS.len; have := hc.row; have := hc.frm; have := hc.to; have := hc.pre; have := hc.whr; have := hc.token; have := hc.conds; have := hc.ops; have := hc.fams; omega))) ?_
  simp only [go_sem, seval]
  apply Y; clear Y K
  simp only [go_sem, seval]
  apply hK2
  clear hK2 K2
  refine YR [3] ?_
  simp only [go_sem, seval]
  refine Z6 (fun T' H' n' => ∃ ver bs, bs = cmdB c ∧ T' = tl [(3, .osl (n + 1) ver 0 bs.length)] ∧ LS H n [(n, .arr 0 17 [Zh c])] (n + 1) ver (7000200000000) bs H' n') ⟨_, bs ++ Zm (u64 c.n), hfin, rfl, ((hS.put (hS.lu (c.n))).up (by have := hc.row; have := hc.frm; have := hc.to; have := hc.pre; have := hc.whr; have := hc.token; have := hc.conds; have := hc.ops; have := hc.fams; omega))⟩ ?_
  rintro T1 H1 n1 ⟨ver, bs, hfin, rfl, hS⟩
  refine Za zs [2] fun K Y => ?_
  simp only [go_sem, seval]
  apply Y; clear Y K
  refine Zf ?_
  simp only [go_sem, seval]
  refine ⟨_, rfl, hS.low, .osl hS.buf (by omega) (by simp) ?_⟩
  rw [List.drop_zero, List.take_of_length_le (by simp), hfin]
  exact YA _ (YE _ _)
 refine Za zs [1, 3, 118] fun K Y => ?_
 simp only [go_sem, seval]
 apply Y; clear Y K
 refine Ze ?_ ?_ <;> intro hb
 ·have hk7 : c.kind = 7 := by simpa using hb
  refine Za zs [3, 8] fun K Y => ?_
  simp only [go_sem, seval, Zh, hsz, haq, hmq, r1, bys]
  apply Y; clear Y K
  refine Z6 (fun T' H' n' => ∃ kq ver bs, bs = hdrB c ∧ T' = tl [(3, .osl (n + 1) ver 0 bs.length), (8, .loc kq 0 0 0 [])] ∧ LS H n [(kq, .arr 0 10 [Zq c.q]), (n, .arr 0 17 [Zh c])] (n + 1) ver (21) bs H' n') ⟨n1, ver, bs, hbs, rfl, hS.newObj _⟩ ?_
  rintro T1 H1 n1 ⟨kq, ver, bs, hbs, rfl, hS⟩
  have r1 := hS.get n (.arr 0 17 [Zh c]) (by simp); have rB := hS.buf
  have r6 := hS.get kq (.arr 0 10 [Zq c.q]) (by simp)
  refine Za zs [3, 8] fun K Y => ?_
  simp only [go_sem, seval, r6, bys, Zq, Zr]
  refine Zg func90 rfl rfl rfl ((YX hS.buf (c.q.frm) (by have := hc.row; have := hc.frm; have := hc.to; have := hc.pre; have := hc.whr; have := hc.token; have := hc.conds; have := hc.ops; have := hc.fams; omega) (by have := hS.len; have := hc.row; have := hc.frm; have := hc.to; have := hc.pre; have := hc.whr; have := hc.token; have := hc.conds; have := hc.ops; have := hc.fams; omega))) ?_
  simp only [go_sem, seval]
  apply Y; clear Y K
  refine Z6 (fun T' H' n' => ∃ ver bs, bs = hdrB c ++ Zp c.q.frm ∧ T' = tl [(3, .osl (n + 1) ver 0 bs.length), (8, .loc kq 0 0 0 [])] ∧ LS H n [(kq, .arr 0 10 [Zq c.q]), (n, .arr 0 17 [Zh c])] (n + 1) ver (2000000) bs H' n') ⟨_, bs ++ Zp c.q.frm, by rw [hbs], rfl, ((hS.put (hS.lby (c.q.frm) (by have := hc.row; have := hc.frm; have := hc.to; have := hc.pre; have := hc.whr; have := hc.token; have := hc.conds; have := hc.ops; have := hc.fams; omega))).up (by have := hc.row; have := hc.frm; have := hc.to; have := hc.pre; have := hc.whr; have := hc.token; have := hc.conds; have := hc.ops; have := hc.fams; omega))⟩ ?_
  rintro T1 H1 n1 ⟨ver, bs, hbs, rfl, hS⟩
  have r1 := hS.get n (.arr 0 17 [Zh c]) (by simp); have rB := hS.buf
  have r6 := hS.get kq (.arr 0 10 [Zq c.q]) (by simp)
  refine Za zs [3, 8] fun K Y => ?_
  simp only [go_sem, seval, r6, bys, Zq, Zr]
  refine Zg func90 rfl rfl rfl ((YX hS.buf (c.q.to) (by have := hc.row; have := hc.frm; have := hc.to; have := hc.pre; have := hc.whr; have := hc.token; have := hc.conds; have := hc.ops; have := hc.fams; omega) (by have := hS.len; have := hc.row; have := hc.frm; have := hc.to; have := hc.pre; have := hc.whr; have := hc.token; have := hc.conds; have := hc.ops; have := hc.fams; omega))) ?_
  simp only [go_sem, seval]
  apply Y; clear Y K
  refine Z6 (fun T' H' n' => ∃ ver bs, bs = hdrB c ++ Zp c.q.frm ++ Zp c.q.to ∧ T' = tl [(3, .osl (n + 1) ver 0 bs.length), (8, .loc kq 0 0 0 [])] ∧ LS H n [(kq, .arr 0 10 [Zq c.q]), (n, .arr 0 17 [Zh c])] (n + 1) ver (4000000) bs H' n') ⟨_, bs ++ Zp c.q.to, by rw [hbs], rfl, ((hS.put (hS.lby (c.q.to) (by have := hc.row; have := hc.frm; have := hc.to; have := hc.pre; have := hc.whr; have := hc.token; have := hc.conds; have := hc.ops; have := hc.fams; omega))).up (by have := hc.row; have := hc.frm; have := hc.to; have := hc.pre; have := hc.whr; have := hc.token; have := hc.conds; have := hc.ops; have := hc.fams; omega))⟩ ?_
  rintro T1 H1 n1 ⟨ver, bs, hbs, rfl, hS⟩
  have r1 := hS.get n (.arr 0 17 [Zh c]) (by simp); have rB := hS.buf
  have r6 := hS.get kq (.arr 0 10 [Zq c.q]) (by simp)
  refine Za zs [3, 8] fun K Y => ?_
  simp only [go_sem, seval, r6, List.length_map, bys, Zq, Zr]
  refine Zg func88 rfl rfl rfl ((YM hS.buf (c.q.fams.length) (by have := hS.len; have := hc.row; have := hc.frm; have := hc.to; have := hc.pre; have := hc.whr; have := hc.token; have := hc.conds; have := hc.ops; have := hc.fams; omega))) ?_
  simp only [go_sem, seval]
  apply Y; clear Y K
  refine Zb fun K8 hK8 => ?_
  refine Z6 (fun T' H' n' => ∃ ver bs, bs = hdrB c ++ Zp c.q.frm ++ Zp c.q.to ++ Zm c.q.fams.length ∧ T' = tl [(3, .osl (n + 1) ver 0 bs.length), (8, .loc kq 0 0 0 [])] ∧ LS H n [(kq, .arr 0 10 [Zq c.q]), (n, .arr 0 17 [Zh c])] (n + 1) ver (4000010) bs H' n') ⟨_, bs ++ Zm (u64 (c.q.fams.length)), by rw [hbs, huf], rfl, ((hS.put (hS.lu (c.q.fams.length))).up (by have := hc.row; have := hc.frm; have := hc.to; have := hc.pre; have := hc.whr; have := hc.token; have := hc.conds; have := hc.ops; have := hc.fams; omega))⟩ ?_
  rintro T1 H1 n1 ⟨ver, bs, hbs, rfl, hS⟩
  have r1 := hS.get n (.arr 0 17 [Zh c]) (by simp); have rB := hS.buf
  have r6 := hS.get kq (.arr 0 10 [Zq c.q]) (by simp)
  refine Za zs [3, 8, 9] fun K Y => ?_
  simp only [go_sem, seval]
  apply Y; clear Y K
  refine Zj ?_
  refine Zz (fun T' H' n' => ∃ i : Nat, i ≤ c.q.fams.length ∧ ∃ ver bs, bs = hdrB c ++ Zp c.q.frm ++ Zp c.q.to ++ Zm c.q.fams.length ++ (c.q.fams.take i).flatMap (fun f => Zm (u64 f)) ∧ T' = tl [(3, .osl (n + 1) ver 0 bs.length), (8, .loc kq 0 0 0 []), (9, .int .i64 i)] ∧ LS H n [(kq, .arr 0 10 [Zq c.q]), (n, .arr 0 17 [Zh c])] (n + 1) ver (4000010 + 10 * i) bs H' n') (fun T' _ _ => c.q.fams.length - iv (T' 9)) ?_ ?_
  ·exact ⟨0, by omega, ver, bs, by rw [hbs]; simp, rfl, hS.up (by omega)⟩
  intro T1 H1 n1
  rintro ⟨i, hi, ver, bs, hbs, rfl, hS⟩
  have r1 := hS.get n (.arr 0 17 [Zh c]) (by simp); have rB := hS.buf
  have r6 := hS.get kq (.arr 0 10 [Zq c.q]) (by simp)
  refine Zb fun K9 hK9 => ?_
  refine Za zs [3, 8, 9, 139] fun K Y => ?_
  simp only [go_sem, seval, Zh, r6, List.length_map, bys, Zq, Zr]
  apply Y; clear Y K
  refine Ze ?_ ?_ <;> intro hb
  ·have hlt : i < c.q.fams.length := by have := of_decide_eq_true hb; omega
   have hil := hc.fams
   have hfl := Xd (fun f => Zm (u64 f)) c.q.fams hlt
   have hnth : nth (c.q.fams.map fun n => AV.int .i64 n) i = .int .i64 (c.q.fams.getD i default) := ZF (fun n => AV.int .i64 n) c.q.fams i hlt
   refine Zd ?_
   simp only [go_sem, seval, Zh, bys]
   apply hK9
   clear hK9 K9
   refine Zb fun K10 hK10 => ?_
   refine Zj ?_
   refine Zl zs [3, 8, 9] fun K Y => ?_
   simp only [go_sem, seval, Zh, r6, List.length_map, bys, Zq, Zr, Int.toNat_natCast, hnth]
   repeat refine peel ?_
   refine Zg func88 rfl rfl rfl ((YM hS.buf (c.q.fams.getD i default) (by have := hS.len; have := hc.row; have := hc.frm; have := hc.to; have := hc.pre; have := hc.whr; have := hc.token; have := hc.conds; have := hc.ops; have := hc.fams; omega))) ?_
   simp only [go_sem, seval]
   apply Y; clear Y K
   simp only [go_sem, seval, Zh, bys]
   apply hK10
   clear hK10 K10
   refine Zl zs [3, 8, 9] fun K Y => ?_
   simp only [go_sem, seval, Zh, bys]
   apply Y; clear Y K
   simp only [go_sem, seval, Zh, bys]
   refine ⟨⟨i + 1, by omega, _, bs ++ Zm (u64 (c.q.fams.getD i default)), by rw [hbs, hfl]; simp, by rw [w1 (by omega)], ((hS.put (hS.lu (c.q.fams.getD i default))).up (by omega))⟩, by rw [w1 (by omega)]; simp; omega⟩
  have hge : i = c.q.fams.length := by have := of_decide_eq_false hb; omega
  have hil := hc.fams
  rw [Xp (fun f => Zm (u64 f)) c.q.fams (by omega)] at hbs
  refine ZA ?_
  simp only [go_sem, seval, Zh, bys]
  apply hK8
  refine Za zs [3, 8] fun K Y => ?_
  simp only [go_sem, seval, r6, bys, Zq, Zr]
  refine Zg func90 rfl rfl rfl ((YX hS.buf (c.q.pre) (by have := hc.row; have := hc.frm; have := hc.to; have := hc.pre; have := hc.whr; have := hc.token; have := hc.conds; have := hc.ops; have := hc.fams; omega) (by have := hS.len; have := hc.row; have := hc.frm; have := hc.to; have := hc.pre; have := hc.whr; have := hc.token; have := hc.conds; have := hc.ops; have := hc.fams; omega))) ?_
  simp only [go_sem, seval]
  apply Y; clear Y K
  refine Z6 (fun T' H' n' => ∃ ver bs, bs = hdrB c ++ Zp c.q.frm ++ Zp c.q.to ++ Zm c.q.fams.length ++ c.q.fams.flatMap (fun f => Zm (u64 f)) ++ Zp c.q.pre ∧ T' = tl [(3, .osl (n + 1) ver 0 bs.length), (8, .loc kq 0 0 0 [])] ∧ LS H n [(kq, .arr 0 10 [Zq c.q]), (n, .arr 0 17 [Zh c])] (n + 1) ver (17000000) bs H' n') ⟨_, bs ++ Zp c.q.pre, by rw [hbs], rfl, ((hS.put (hS.lby (c.q.pre) (by have := hc.row; have := hc.frm; have := hc.to; have := hc.pre; have := hc.whr; have := hc.token; have := hc.conds; have := hc.ops; have := hc.fams; omega))).up (by have := hc.row; have := hc.frm; have := hc.to; have := hc.pre; have := hc.whr; have := hc.token; have := hc.conds; have := hc.ops; have := hc.fams; omega))⟩ ?_
  rintro T1 H1 n1 ⟨ver, bs, hbs, rfl, hS⟩
  have r1 := hS.get n (.arr 0 17 [Zh c]) (by simp); have rB := hS.buf
  have r6 := hS.get kq (.arr 0 10 [Zq c.q]) (by simp)
  refine Za zs [3, 8] fun K Y => ?_
  simp only [go_sem, seval, r6, bys, Zq, Zr]
  refine Zg func88 rfl rfl rfl ((YM hS.buf (c.q.time) (by have := hS.len; have := hc.row; have := hc.frm; have := hc.to; have := hc.pre; have := hc.whr; have := hc.token; have := hc.conds; have := hc.ops; have := hc.fams; omega))) ?_
  simp only [go_sem, seval]
  apply Y; clear Y K
  refine Z6 (fun T' H' n' => ∃ ver bs, bs = hdrB c ++ Zp c.q.frm ++ Zp c.q.to ++ Zm c.q.fams.length ++ c.q.fams.flatMap (fun f => Zm (u64 f)) ++ Zp c.q.pre ++ Zm (u64 (c.q.time)) ∧ T' = tl [(3, .osl (n + 1) ver 0 bs.length), (8, .loc kq 0 0 0 [])] ∧ LS H n [(kq, .arr 0 10 [Zq c.q]), (n, .arr 0 17 [Zh c])] (n + 1) ver (17000100) bs H' n') ⟨_, bs ++ Zm (u64 (c.q.time)), by rw [hbs], rfl, ((hS.put (hS.lu (c.q.time))).up (by have := hc.row; have := hc.frm; have := hc.to; have := hc.pre; have := hc.whr; have := hc.token; have := hc.conds; have := hc.ops; have := hc.fams; omega))⟩ ?_
  rintro T1 H1 n1 ⟨ver, bs, hbs, rfl, hS⟩
  have r1 := hS.get n (.arr 0 17 [Zh c]) (by simp); have rB := hS.buf
  have r6 := hS.get kq (.arr 0 10 [Zq c.q]) (by simp)
  refine Za zs [3, 8] fun K Y => ?_
  simp only [go_sem, seval, r6, bys, Zq, Zr]
  refine Zg func88 rfl rfl rfl ((YM hS.buf (c.q.n) (by have := hS.len; have := hc.row; have := hc.frm; have := hc.to; have := hc.pre; have := hc.whr; have := hc.token; have := hc.conds; have := hc.ops; have := hc.fams; omega))) ?_
  simp only [go_sem, seval]
  apply Y; clear Y K
  refine Z6 (fun T' H' n' => ∃ ver bs, bs = hdrB c ++ Zp c.q.frm ++ Zp c.q.to ++ Zm c.q.fams.length ++ c.q.fams.flatMap (fun f => Zm (u64 f)) ++ Zp c.q.pre ++ Zm (u64 (c.q.time)) ++ Zm (u64 (c.q.n)) ∧ T' = tl [(3, .osl (n + 1) ver 0 bs.length), (8, .loc kq 0 0 0 [])] ∧ LS H n [(kq, .arr 0 10 [Zq c.q]), (n, .arr 0 17 [Zh c])] (n + 1) ver (17000200) bs H' n') ⟨_, bs ++ Zm (u64 (c.q.n)), by rw [hbs], rfl, ((hS.put (hS.lu (c.q.n))).up (by have := hc.row; have := hc.frm; have := hc.to; have := hc.pre; have := hc.whr; have := hc.token; have := hc.conds; have := hc.ops; have := hc.fams; omega))⟩ ?_
  rintro T1 H1 n1 ⟨ver, bs, hbs, rfl, hS⟩
  have r1 := hS.get n (.arr 0 17 [Zh c]) (by simp); have rB := hS.buf
  have r6 := hS.get kq (.arr 0 10 [Zq c.q]) (by simp)
  refine Za zs [3, 8] fun K Y => ?_
  simp only [go_sem, seval, r6, bys, Zq, Zr]
  refine Zg func88 rfl rfl rfl ((YM hS.buf (c.q.rows) (by have := hS.len; have := hc.row; have := hc.frm; have := hc.to; have := hc.pre; have := hc.whr; have := hc.token; have := hc.conds; have := hc.ops; have := hc.fams; omega))) ?_
  simp only [go_sem, seval]
  apply Y; clear Y K
  refine Z6 (fun T' H' n' => ∃ ver bs, bs = hdrB c ++ Zp c.q.frm ++ Zp c.q.to ++ Zm c.q.fams.length ++ c.q.fams.flatMap (fun f => Zm (u64 f)) ++ Zp c.q.pre ++ Zm (u64 (c.q.time)) ++ Zm (u64 (c.q.n)) ++ Zm (u64 (c.q.rows)) ∧ T' = tl [(3, .osl (n + 1) ver 0 bs.length), (8, .loc kq 0 0 0 [])] ∧ LS H n [(kq, .arr 0 10 [Zq c.q]), (n, .arr 0 17 [Zh c])] (n + 1) ver (17000300) bs H' n') ⟨_, bs ++ Zm (u64 (c.q.rows)), by rw [hbs], rfl, ((hS.put (hS.lu (c.q.rows))).up (by have := hc.row; have := hc.frm; have := hc.to; have := hc.pre; have := hc.whr; have := hc.token; have := hc.conds; have := hc.ops; have := hc.fams; omega))⟩ ?_
  rintro T1 H1 n1 ⟨ver, bs, hbs, rfl, hS⟩
  have r1 := hS.get n (.arr 0 17 [Zh c]) (by simp); have rB := hS.buf
  have r6 := hS.get kq (.arr 0 10 [Zq c.q]) (by simp)
  refine Za zs [3, 8] fun K Y => ?_
  simp only [go_sem, seval, r6, bys, Zq, Zr]
  refine Zg func89 rfl rfl rfl ((c_ref14_flag hS.buf (c.q.rev) (by have := hS.len; have := hc.row; have := hc.frm; have := hc.to; have := hc.pre; have := hc.whr; have := hc.token; have := hc.conds; have := hc.ops; have := hc.fams; omega))) ?_
  simp only [go_sem, seval]
  apply Y; clear Y K
  refine Z6 (fun T' H' n' => ∃ ver bs, bs = hdrB c ++ Zp c.q.frm ++ Zp c.q.to ++ Zm c.q.fams.length ++ c.q.fams.flatMap (fun f => Zm (u64 f)) ++ Zp c.q.pre ++ Zm (u64 (c.q.time)) ++ Zm (u64 (c.q.n)) ++ Zm (u64 (c.q.rows)) ++ Wx c.q.rev ∧ T' = tl [(3, .osl (n + 1) ver 0 bs.length), (8, .loc kq 0 0 0 [])] ∧ LS H n [(kq, .arr 0 10 [Zq c.q]), (n, .arr 0 17 [Zh c])] (n + 1) ver (17000400) bs H' n') ⟨_, bs ++ Wx c.q.rev, by rw [hbs], rfl, ((hS.put (hS.l1 (Wx c.q.rev))).up (by show _ + 1 ≤ _; omega))⟩ ?_
  rintro T1 H1 n1 ⟨ver, bs, hbs, rfl, hS⟩
  have r1 := hS.get n (.arr 0 17 [Zh c]) (by simp); have rB := hS.buf
  have r6 := hS.get kq (.arr 0 10 [Zq c.q]) (by simp)
  refine Za zs [3, 8] fun K Y => ?_
  simp only [go_sem, seval, r6, bys, Zq, Zr]
  refine Zg func90 rfl rfl rfl ((YX hS.buf (c.q.whr) (by have := hc.row; have := hc.frm; have := hc.to; have := hc.pre; have := hc.whr; have := hc.token; have := hc.conds; have := hc.ops; have := hc.fams; omega) (by have := hS.len; have := hc.row; have := hc.frm; have := hc.to; have := hc.pre; have := hc.whr; have := hc.token; have := hc.conds; have := hc.ops; have := hc.fams; omega))) ?_
  simp only [go_sem, seval]
  apply Y; clear Y K
  refine Z6 (fun T' H' n' => ∃ ver bs, bs = hdrB c ++ Zp c.q.frm ++ Zp c.q.to ++ Zm c.q.fams.length ++ c.q.fams.flatMap (fun f => Zm (u64 f)) ++ Zp c.q.pre ++ Zm (u64 (c.q.time)) ++ Zm (u64 (c.q.n)) ++ Zm (u64 (c.q.rows)) ++ Wx c.q.rev ++ Zp c.q.whr ∧ T' = tl [(3, .osl (n + 1) ver 0 bs.length), (8, .loc kq 0 0 0 [])] ∧ LS H n [(kq, .arr 0 10 [Zq c.q]), (n, .arr 0 17 [Zh c])] (n + 1) ver (19000000) bs H' n') ⟨_, bs ++ Zp c.q.whr, by rw [hbs], rfl, ((hS.put (hS.lby (c.q.whr) (by have := hc.row; have := hc.frm; have := hc.to; have := hc.pre; have := hc.whr; have := hc.token; have := hc.conds; have := hc.ops; have := hc.fams; omega))).up (by have := hc.row; have := hc.frm; have := hc.to; have := hc.pre; have := hc.whr; have := hc.token; have := hc.conds; have := hc.ops; have := hc.fams; omega))⟩ ?_
  rintro T1 H1 n1 ⟨ver, bs, hbs, rfl, hS⟩
  have r1 := hS.get n (.arr 0 17 [Zh c]) (by simp); have rB := hS.buf
  have r6 := hS.get kq (.arr 0 10 [Zq c.q]) (by simp)
  refine Zl zs [3] fun K Y => ?_
  simp only [go_sem, seval, r6, bys, Zq, Zr]
  refine Zg func90 rfl rfl rfl ((YX hS.buf (c.q.token) (by have := hc.row; have := hc.frm; have := hc.to; have := hc.pre; have := hc.whr; have := hc.token; have := hc.conds; have := hc.ops; have := hc.fams; omega) (by have := hS.len; have := hc.row; have := hc.frm; have := hc.to; have := hc.pre; have := hc.whr; have := hc.token; have := hc.conds; have := hc.ops; have := hc.fams; omega))) ?_
  simp only [go_sem, seval]
  apply Y; clear Y K
  simp only [go_sem, seval]
  apply hK2
  refine YR [3] ?_
  simp only [go_sem, seval]
  refine Z6 (fun T' H' n' => ∃ ver bs, bs = cmdB c ∧ T' = tl [(3, .osl (n + 1) ver 0 bs.length)] ∧ LS H n [(n, .arr 0 17 [Zh c])] (n + 1) ver (7000200000000) bs H' n') ⟨_, bs ++ Zp c.q.token, by rw [hbs, VT h1 h7]; simp [hk7, kOps, Yn, Yd, qryB], rfl, (((hS.put (hS.lby (c.q.token) (by have := hc.row; have := hc.frm; have := hc.to; have := hc.pre; have := hc.whr; have := hc.token; have := hc.conds; have := hc.ops; have := hc.fams; omega))).up (by have := hc.row; have := hc.frm; have := hc.to; have := hc.pre; have := hc.whr; have := hc.token; have := hc.conds; have := hc.ops; have := hc.fams; omega))).drop⟩ ?_
  rintro T1 H1 n1 ⟨ver, bs, hfin, rfl, hS⟩
  refine Za zs [2] fun K Y => ?_
  simp only [go_sem, seval]
  apply Y; clear Y K
  refine Zf ?_
  simp only [go_sem, seval]
  refine ⟨_, rfl, hS.low, .osl hS.buf (by omega) (by simp) ?_⟩
  rw [List.drop_zero, List.take_of_length_le (by simp), hfin]
  exact YA _ (YE _ _)
 have hfin : bs = cmdB c := by rw [hbs, VT h1 h7]; have h3 : c.kind = 3 := (by simp at *; omega); simp [h3, kOps, Yn, Yd]
 refine Zd ?_
 simp only [go_sem, seval]
 apply hK2
 clear hK2 K2
 refine YR [3] ?_
 simp only [go_sem, seval]
 refine Z6 (fun T' H' n' => ∃ ver bs, bs = cmdB c ∧ T' = tl [(3, .osl (n + 1) ver 0 bs.length)] ∧ LS H n [(n, .arr 0 17 [Zh c])] (n + 1) ver (7000200000000) bs H' n') ⟨_, bs, hfin, rfl, hS.up (by have := hc.row; have := hc.frm; have := hc.to; have := hc.pre; have := hc.whr; have := hc.token; have := hc.conds; have := hc.ops; have := hc.fams; omega)⟩ ?_
 rintro T1 H1 n1 ⟨ver, bs, hfin, rfl, hS⟩
 refine Za zs [2] fun K Y => ?_
 simp only [go_sem, seval]
 apply Y; clear Y K
 refine Zf ?_
 simp only [go_sem, seval]
 refine ⟨_, rfl, hS.low, .osl hS.buf (by omega) (by simp) ?_⟩
 rw [List.drop_zero, List.take_of_length_le (by simp), hfin]
 exact YA _ (YE _ _)
end Go.Proofs.YtifnhpmeoogedaaGreatDoor