/- Own layer: walks through the checks of the order's document. Of the program; no condition. -/
import Derived.Test.YtifnhpmeoogedaaGreatDoorPH
set_option linter.unusedSimpArgs false
set_option linter.unusedVariables false
namespace Go.Proofs.YtifnhpmeoogedaaGreatDoor
open Go Go.Sx Go.Rt Go.Proofs Tryz
theorem Ym (x lo hi : Int) (H : Heap) (n : Nat) : Ret prog 57 [.int .i64 x, .int .i64 lo, .int .i64 hi] H n (.bool (bout x lo hi)) H n := by
 refine Zc func57 rfl ntmps57 (congrArg Array.toList results57) (by simp) ?_
 simp only [go_sem]
 refine ZB zs [0, 1, 2] ?_
 refine ZB zs [6] ?_
 refine Ze ?_
 try simp only [go_sem, seval]
 simp [bout]
theorem c_ref14_zero (q : QryE) (H : Heap) (n : Nat) : Ret prog 62 [Zq q] H n (.bool (decide (q = zq))) H n := by
 refine Ret.fin ?_
 refine Zc func62 rfl ntmps62 (congrArg Array.toList results62) (by simp) ?_
 simp only [go_sem]
 refine Za zs [1] fun K hK => ?_
 try simp only [go_sem, seval, Zq, Zr]
 apply hK; clear hK K
 refine Za zs [1, 3] fun K hK => ?_
 try simp only [go_sem, seval, List.length_map]
 repeat refine peel ?_
 apply hK; clear hK K
 refine Za zs [2] fun K hK => ?_
 try simp only [go_sem, seval]
 repeat refine peel ?_
 apply hK; clear hK K
 refine Ze ?_
 try simp only [go_sem, seval]
 refine ⟨_, rfl, fun k hk => ?_, Frz.eq ?_ trivial⟩
 ·(repeat rw [if_neg (by omega)])
 ·congr 1; rw [Bool.eq_iff_iff]; cases q; simp [zq, beq_iff_eq]; constructor <;> intro h <;> simp_all
theorem c_ref14_client (c : CmdE) (H : Heap) (n : Nat) : Ret prog 58 [Zh c] H n (.bool (!cb3 c)) H n := by
 have hsz := Yg c.q
 refine Ret.fin ?_
 refine Zc func58 rfl ntmps58 (congrArg Array.toList results58) (by simp) ?_
 simp only [go_sem]
 refine Za zs [1] fun K hK => ?_
 try simp only [go_sem, seval, Zh, hsz]
 apply hK; clear hK K
 refine Za zs [1, 3] fun K hK => ?_
 try simp only [go_sem, seval]
 apply hK; clear hK K
 refine Za zs [1, 3, 4] fun K hK => ?_
 try simp only [go_sem, seval]
 apply hK; clear hK K
 refine Zb fun K1 hK1 => ?_
 refine Za zs [1, 3, 4, 7] fun K hK => ?_
 try simp only [go_sem, seval]
 apply hK; clear hK K
 refine Zf ?_ ?_ <;> intro hb
 ·skip
  refine Zl zs [1, 3, 4] fun K hK => ?_
  try simp only [go_sem, seval]
  apply hK; clear hK K
  try simp only [go_sem, seval]
  apply hK1
  clear hK1 K1
  refine Zb fun K2 hK2 => ?_
  refine Za zs [1, 3, 4, 10] fun K hK => ?_
  try simp only [go_sem, seval]
  apply hK; clear hK K
  refine Zf ?_ ?_ <;> intro hb
  ·skip
   refine Zl zs [1, 3, 4] fun K hK => ?_
   try simp only [go_sem, seval]
   apply hK; clear hK K
   try simp only [go_sem, seval]
   apply hK2
   clear hK2 K2
   refine Za zs [2] fun K hK => ?_
   try simp only [go_sem, seval]
   refine Zg func57 rfl rfl rfl ((Ym _ _ _ _ _)) ?_
   try simp only [go_sem, seval]
   apply hK; clear hK K
   refine Ze ?_
   try simp only [go_sem, seval]
   refine ⟨_, rfl, fun k hk => ?_, Frz.eq ?_ trivial⟩
   ·(repeat rw [if_neg (by omega)])
   ·congr 1; simp [cb3, ZP, YO]; split <;> split <;> first | rfl | (exfalso; simp at *; omega)
  refine Zd ?_
  try simp only [go_sem, seval]
  apply hK2
  clear hK2 K2
  refine Za zs [2] fun K hK => ?_
  try simp only [go_sem, seval]
  refine Zg func57 rfl rfl rfl ((Ym _ _ _ _ _)) ?_
  try simp only [go_sem, seval]
  apply hK; clear hK K
  refine Ze ?_
  try simp only [go_sem, seval]
  refine ⟨_, rfl, fun k hk => ?_, Frz.eq ?_ trivial⟩
  ·(repeat rw [if_neg (by omega)])
  ·congr 1; simp [cb3, ZP, YO]; split <;> split <;> first | rfl | (exfalso; simp at *; omega)
 refine Zd ?_
 try simp only [go_sem, seval]
 apply hK1
 clear hK1 K1
 refine Zb fun K3 hK3 => ?_
 refine Za zs [1, 3, 4, 10] fun K hK => ?_
 try simp only [go_sem, seval]
 apply hK; clear hK K
 refine Zf ?_ ?_ <;> intro hb
 ·skip
  refine Zl zs [1, 3, 4] fun K hK => ?_
  try simp only [go_sem, seval]
  apply hK; clear hK K
  try simp only [go_sem, seval]
  apply hK3
  clear hK3 K3
  refine Za zs [2] fun K hK => ?_
  try simp only [go_sem, seval]
  refine Zg func57 rfl rfl rfl ((Ym _ _ _ _ _)) ?_
  try simp only [go_sem, seval]
  apply hK; clear hK K
  refine Ze ?_
  try simp only [go_sem, seval]
  refine ⟨_, rfl, fun k hk => ?_, Frz.eq ?_ trivial⟩
  ·(repeat rw [if_neg (by omega)])
  ·congr 1; simp [cb3, ZP, YO]; split <;> split <;> first | rfl | (exfalso; simp at *; omega)
 refine Zd ?_
 try simp only [go_sem, seval]
 apply hK3
 clear hK3 K3
 refine Za zs [2] fun K hK => ?_
 try simp only [go_sem, seval]
 refine Zg func57 rfl rfl rfl ((Ym _ _ _ _ _)) ?_
 try simp only [go_sem, seval]
 apply hK; clear hK K
 refine Ze ?_
 try simp only [go_sem, seval]
 refine ⟨_, rfl, fun k hk => ?_, Frz.eq ?_ trivial⟩
 ·(repeat rw [if_neg (by omega)])
 ·congr 1; simp [cb3, ZP, YO]; split <;> split <;> first | rfl | (exfalso; simp at *; omega)
theorem c_ref14_amount (c : CmdE) (hk1 : 1 ≤ c.kind) (H : Heap) (n : Nat) : Ret prog 60 [Zh c] H n (.bool (!cb9 c)) H n := by
 have hsz := Yg c.q
 refine Ret.fin ?_
 refine Zc func60 rfl ntmps60 (congrArg Array.toList results60) (by simp) ?_
 simp only [go_sem]
 refine Za zs [1] fun K hK => ?_
 try simp only [go_sem, seval, Zh, hsz]
 apply hK; clear hK K
 refine Zb fun K1 hK1 => ?_
 refine Za zs [1, 4] fun K hK => ?_
 try simp only [go_sem, seval]
 apply hK; clear hK K
 refine Zk ?_
 refine Za zs [1, 4, 5] fun K hK => ?_
 try simp only [go_sem, seval]
 apply hK; clear hK K
 refine Zf ?_ ?_ <;> intro hb
 ·skip
  refine Za zs [2] fun K hK => ?_
  try simp only [go_sem, seval]
  refine Zg func57 rfl rfl rfl ((Ym _ _ _ _ _)) ?_
  try simp only [go_sem, seval]
  apply hK; clear hK K
  refine Ze ?_
  try simp only [go_sem, seval]
  refine ⟨_, rfl, fun k hk => ?_, Frz.eq ?_ trivial⟩
  ·(repeat rw [if_neg (by omega)])
  ·congr 1; have h0 : c.kind ≠ 0 := (by omega); by_cases h5 : c.kind = 5 <;> by_cases h6 : c.kind = 6 <;> simp_all [cb9, Yl, bne]
 refine Za zs [1, 11] fun K hK => ?_
 try simp only [go_sem, seval]
 apply hK; clear hK K
 refine Zf ?_ ?_ <;> intro hb
 ·skip
  refine Za zs [2] fun K hK => ?_
  try simp only [go_sem, seval]
  refine Zg func57 rfl rfl rfl ((Ym _ _ _ _ _)) ?_
  try simp only [go_sem, seval]
  apply hK; clear hK K
  refine Ze ?_
  try simp only [go_sem, seval]
  refine ⟨_, rfl, fun k hk => ?_, Frz.eq ?_ trivial⟩
  ·(repeat rw [if_neg (by omega)])
  ·congr 1; have h0 : c.kind ≠ 0 := (by omega); by_cases h5 : c.kind = 5 <;> by_cases h6 : c.kind = 6 <;> simp_all [cb9, Yl, bne]
 refine Zd ?_
 try simp only [go_sem, seval]
 apply hK1
 clear hK1 K1
 refine Za zs [2] fun K hK => ?_
 try simp only [go_sem, seval]
 apply hK; clear hK K
 refine Ze ?_
 try simp only [go_sem, seval]
 refine ⟨_, rfl, fun k hk => ?_, Frz.eq ?_ trivial⟩
 ·(repeat rw [if_neg (by omega)])
 ·congr 1; have h0 : c.kind ≠ 0 := (by omega); by_cases h5 : c.kind = 5 <;> by_cases h6 : c.kind = 6 <;> simp_all [cb9, Yl, bne]
theorem c_ref14_cond (s : List Fml) (hs : s.length ≤ 2000000) (x : YG) (H : Heap) (n : Nat) : Ret prog 121 [Zu s, Zt x] H n (.bool (Xz s.length x)) H n := by
 have hw : IntKind.i64.wrap ((s.length : Int) - 1) = (s.length : Int) - 1 := w64 (by omega) (by omega)
 refine Ret.fin ?_
 refine Zc func121 rfl ntmps121 (congrArg Array.toList results121) (by simp) ?_
 simp only [go_sem]
 refine Za zs [2, 3] fun K hK => ?_
 try simp only [go_sem, seval, Zt]
 apply hK; clear hK K
 refine Zb fun K1 hK1 => ?_
 refine Za zs [3, 28] fun K hK => ?_
 try simp only [go_sem, seval]
 refine Zg func57 rfl rfl rfl ((Ym x.kind 1 6 _ _)) ?_
 try simp only [go_sem, seval, List.length_map, hw]
 refine Zv func57 rfl rfl rfl (fun _ => (Ym x.fam 0 ((s.length : Int) - 1) _ _)) ?_
 try simp only [go_sem, seval, List.length_map]
 repeat refine peel ?_
 apply hK; clear hK K
 refine Zf ?_ ?_ <;> intro hb
 ·skip
  refine Za zs [4] fun K hK => ?_
  try simp only [go_sem, seval]
  apply hK; clear hK K
  refine Ze ?_
  try simp only [go_sem, seval]
  refine ⟨_, rfl, fun k hk => ?_, Frz.eq ?_ trivial⟩
  ·(repeat rw [if_neg (by omega)])
  ·congr 1; unfold Xz; rw [Bool.eq_iff_iff]; clear hw; by_cases hv : x.value.length = 0 <;> simp [bout, -List.length_eq_zero_iff, hv] at * <;> omega
 refine Zd ?_
 try simp only [go_sem, seval]
 apply hK1
 clear hK1 K1
 refine Za zs [4] fun K hK => ?_
 try simp only [go_sem, seval, List.length_map]
 repeat refine peel ?_
 apply hK; clear hK K
 refine Ze ?_
 try simp only [go_sem, seval]
 refine ⟨_, rfl, fun k hk => ?_, Frz.eq ?_ trivial⟩
 ·(repeat rw [if_neg (by omega)])
 ·congr 1; unfold Xz; rw [Bool.eq_iff_iff]; clear hw; by_cases hv : x.value.length = 0 <;> simp [bout, -List.length_eq_zero_iff, hv] at * <;> omega
theorem c_ref14_op (s : List Fml) (hs : s.length ≤ 2000000) (x : OpE) (H : Heap) (n : Nat) : Ret prog 122 [Zu s, opAV x] H n (.bool (opOK s.length x)) H n := by
 have hw : IntKind.i64.wrap ((s.length : Int) - 1) = (s.length : Int) - 1 := w64 (by omega) (by omega)
 refine Ret.fin ?_
 refine Zc func122 rfl ntmps122 (congrArg Array.toList results122) (by simp) ?_
 simp only [go_sem]
 refine Za zs [2, 3] fun K hK => ?_
 try simp only [go_sem, seval, opAV]
 apply hK; clear hK K
 refine Zb fun K1 hK1 => ?_
 refine Za zs [3, 33] fun K hK => ?_
 try simp only [go_sem, seval]
 refine Zg func57 rfl rfl rfl ((Ym x.kind 1 5 _ _)) ?_
 try simp only [go_sem, seval, List.length_map, hw]
 refine Zv func57 rfl rfl rfl (fun _ => (Ym x.fam 0 ((s.length : Int) - 1) _ _)) ?_
 try simp only [go_sem, seval, List.length_map]
 repeat refine peel ?_
 refine Zv func57 rfl rfl rfl (fun _ => (Ym x.ts 0 1099511627776 _ _)) ?_
 try simp only [go_sem, seval]
 repeat refine peel ?_
 apply hK; clear hK K
 refine Zf ?_ ?_ <;> intro hb
 ·skip
  refine Za zs [4] fun K hK => ?_
  try simp only [go_sem, seval]
  apply hK; clear hK K
  refine Ze ?_
  try simp only [go_sem, seval]
  refine ⟨_, rfl, fun k hk => ?_, Frz.eq ?_ trivial⟩
  ·(repeat rw [if_neg (by omega)])
  ·congr 1; unfold opOK; clear hw; generalize bout x.kind 1 5 = b1 at *; generalize bout x.fam 0 ((s.length : Int) - 1) = b2 at *; generalize bout x.ts 0 1099511627776 = b3 at *
   grind
 refine Zd ?_
 try simp only [go_sem, seval]
 apply hK1
 clear hK1 K1
 refine Zb fun K2 hK2 => ?_
 refine Za zs [3, 53] fun K hK => ?_
 try simp only [go_sem, seval, List.length_map]
 repeat (first | refine peel ?_ | refine ⟨by (intro _ h; rw [h]; rfl), ?_⟩)
 apply hK; clear hK K
 refine Zf ?_ ?_ <;> intro hb
 ·skip
  refine Za zs [4] fun K hK => ?_
  try simp only [go_sem, seval]
  apply hK; clear hK K
  refine Ze ?_
  try simp only [go_sem, seval]
  refine ⟨_, rfl, fun k hk => ?_, Frz.eq ?_ trivial⟩
  ·(repeat rw [if_neg (by omega)])
  ·congr 1; unfold opOK; clear hw; generalize bout x.kind 1 5 = b1 at *; generalize bout x.fam 0 ((s.length : Int) - 1) = b2 at *; generalize bout x.ts 0 1099511627776 = b3 at *
   grind
 refine Zd ?_
 try simp only [go_sem, seval]
 apply hK2
 clear hK2 K2
 refine Zb fun K3 hK3 => ?_
 refine Za zs [3, 56] fun K hK => ?_
 try simp only [go_sem, seval]
 apply hK; clear hK K
 refine Zf ?_ ?_ <;> intro hb
 ·skip
  refine Za zs [4] fun K hK => ?_
  try simp only [go_sem, seval]
  apply hK; clear hK K
  refine Ze ?_
  try simp only [go_sem, seval]
  refine ⟨_, rfl, fun k hk => ?_, Frz.eq ?_ trivial⟩
  ·(repeat rw [if_neg (by omega)])
  ·congr 1; unfold opOK; clear hw; generalize bout x.kind 1 5 = b1 at *; generalize bout x.fam 0 ((s.length : Int) - 1) = b2 at *; generalize bout x.ts 0 1099511627776 = b3 at *
   grind
 refine Zd ?_
 try simp only [go_sem, seval]
 apply hK3
 clear hK3 K3
 refine Za zs [4] fun K hK => ?_
 try simp only [go_sem, seval]
 apply hK; clear hK K
 refine Ze ?_
 try simp only [go_sem, seval]
 refine ⟨_, rfl, fun k hk => ?_, Frz.eq ?_ trivial⟩
 ·(repeat rw [if_neg (by omega)])
 ·congr 1; unfold opOK; clear hw; generalize bout x.kind 1 5 = b1 at *; generalize bout x.fam 0 ((s.length : Int) - 1) = b2 at *; generalize bout x.ts 0 1099511627776 = b3 at *
  grind
theorem qry_ext (a b : QryE) : a = b ↔ a.frm = b.frm ∧ a.to = b.to ∧ a.fams = b.fams ∧ a.pre = b.pre ∧ a.time = b.time ∧ a.n = b.n ∧ a.rows = b.rows ∧ a.rev = b.rev ∧ a.whr = b.whr ∧ a.token = b.token := by cases a; cases b; simp
theorem cmd_ext (a b : CmdE) : a = b ↔ a.kind = b.kind ∧ a.client = b.client ∧ a.serial = b.serial ∧ a.row = b.row ∧ a.conds = b.conds ∧ a.ops = b.ops ∧ a.n = b.n ∧ a.q = b.q := by cases a; cases b; simp
theorem cond_ext (a b : YG) : a = b ↔ a.kind = b.kind ∧ a.fam = b.fam ∧ a.qual = b.qual ∧ a.value = b.value := by cases a; cases b; simp
theorem op_ext (a b : OpE) : a = b ↔ a.kind = b.kind ∧ a.fam = b.fam ∧ a.qual = b.qual ∧ a.ts = b.ts ∧ a.value = b.value ∧ a.delta = b.delta := by cases a; cases b; simp
set_option maxRecDepth 100000 in
set_option maxHeartbeats 3200000 in
theorem Jo (a b : QryE) (ha : a.fams.length ≤ 1048576) (H : Heap) (n : Nat) : Ret prog 80 [Zq a, Zq b] H n (.bool (decide (a = b))) H n := by
 refine Ret.fin ?_
 refine Zc func80 rfl ntmps80 (congrArg Array.toList results80) (by simp) ?_
 simp only [go_sem]
 refine Za zs [2, 3] fun K hK => ?_
 try simp only [go_sem, seval, Zq, Zr, bys]
 apply hK; clear hK K
 refine Zb fun K1 hK1 => ?_
 refine Za zs [2, 3, 48] fun K hK => ?_
 try simp only [go_sem, seval, List.length_map, YX]
 repeat (first | refine peel ?_ | (refine And.intro ?_ ?_; · first | exact Y1 _ | exact fun _ => Y1 _))
 apply hK; clear hK K
 refine Zf ?_ ?_ <;> intro hb
 ·skip
  have hne : ¬ a = b := fun e => by subst e; simp at hb
  refine Za zs [4] fun K hK => ?_
  try simp only [go_sem, seval]
  apply hK; clear hK K
  refine Ze ?_
  try simp only [go_sem, seval]
  refine ⟨_, rfl, fun k hk => ?_, Frz.eq ?_ trivial⟩
  ·(repeat rw [if_neg (by omega)])
  ·congr 1; first | (simp [hne]; done) | (rw [Bool.eq_iff_iff, decide_eq_true_eq, qry_ext]; grind)
 have hl : a.fams.length = b.fams.length := by grind
 have hh : a.frm = b.frm ∧ a.to = b.to ∧ a.pre = b.pre ∧ a.token = b.token := by grind
 refine Zd ?_
 try simp only [go_sem, seval]
 apply hK1
 clear hK1 K1
 refine Zb fun K2 hK2 => ?_
 refine Za zs [2, 3, 5] fun K hK => ?_
 try simp only [go_sem, seval]
 apply hK; clear hK K
 refine Zk ?_
 refine Zy (fun T' H' n' => ∃ i : Nat, i ≤ a.fams.length ∧ T' = tl [(2, .loc n 0 0 0 []), (3, .loc (n + 1) 0 0 0 []), (5, .int .i64 i)] ∧ H' = (H.put n (some (.arr 0 10 [Zq a]))).put (n + 1) (some (.arr 0 10 [Zq b])) ∧ n' = n + 2 ∧ (a.fams.drop i = b.fams.drop i ↔ a.fams = b.fams)) (fun T' _ _ => a.fams.length - iv (T' 5)) ?_ ?_
 ·skip
  exact ⟨0, Nat.zero_le _, rfl, rfl, rfl, by simp⟩
 intro T1 H1 n1
 rintro ⟨i, hi, rfl, rfl, rfl, hix⟩
 refine Zb fun K3 hK3 => ?_
 refine Za zs [2, 3, 5, 53] fun K hK => ?_
 try simp only [go_sem, seval, Zq, Zr, List.length_map, bys]
 apply hK; clear hK K
 refine Zf ?_ ?_ <;> intro hb
 ·skip
  have hlt : i < a.fams.length := by have := of_decide_eq_true hb; omega
  have hlt2 : i < b.fams.length := by omega
  rw [Z0 a.fams i hlt, Z0 b.fams i hlt2, List.cons.injEq] at hix
  have hn1 : nth (a.fams.map fun x => AV.int .i64 x) i = .int .i64 (a.fams.getD i default) := ZG (fun x => AV.int .i64 x) a.fams i hlt
  have hn2 : nth (b.fams.map fun x => AV.int .i64 x) i = .int .i64 (b.fams.getD i default) := ZG (fun x => AV.int .i64 x) b.fams i hlt2
  refine Zd ?_
  try simp only [go_sem, seval, Zq, Zr, bys]
  apply hK3
  clear hK3 K3
  refine Zb fun K4 hK4 => ?_
  refine Zk ?_
  refine YF rfl zs [2, 3, 5, 66] [.q, .q, .m, .q, .q, .q, .q, .m, .q, .q, .q] (by kernel_rfl) (fun _ _ _ _ _ h => h) fun K hK => ?_
  try simp only [go_sem, seval, Zq, Zr, List.length_map, bys, Int.toNat_natCast, hn1, hn2]
  repeat refine peel ?_
  apply hK; clear hK K
  refine Zf ?_ ?_ <;> intro hb
  ·skip
   have hne : ¬ a = b := fun e => by subst e; simp at hb
   refine Za zs [4] fun K hK => ?_
   try simp only [go_sem, seval, Zq, Zr, bys]
   apply hK; clear hK K
   refine Ze ?_
   try simp only [go_sem, seval, Zq, Zr, bys]
   refine ⟨_, rfl, fun k hk => ?_, Frz.eq ?_ trivial⟩
   ·(repeat rw [if_neg (by omega)])
   ·congr 1; first | (simp [hne]; done) | (rw [Bool.eq_iff_iff, decide_eq_true_eq, qry_ext]; grind)
  have hx : a.fams.getD i default = b.fams.getD i default := by simp at hb; simpa using hb
  have hnext : (a.fams.drop (i + 1) = b.fams.drop (i + 1)) ↔ a.fams = b.fams := by rw [← hix]; simp only [hx, true_and]
  refine Zd ?_
  try simp only [go_sem, seval, Zq, Zr, bys]
  apply hK4
  clear hK4 K4
  refine Zl zs [2, 3, 5] fun K hK => ?_
  try simp only [go_sem, seval, Zq, Zr, bys]
  apply hK; clear hK K
  try simp only [go_sem, seval, Zq, Zr, bys]
  exact ⟨⟨i + 1, by omega, by rw [w1 (by omega)], hnext⟩, by rw [w1 (by omega)]; simp; omega⟩
 have hge : i = a.fams.length := by have := of_decide_eq_false hb; omega
 have heq : a.fams = b.fams := by rw [← hix, hge, List.drop_length, hl, List.drop_length]
 refine Zz ?_
 try simp only [go_sem, seval, Zq, Zr, bys]
 apply hK2
 refine Za zs [4] fun K hK => ?_
 try simp only [go_sem, seval]
 repeat refine peel ?_
 apply hK; clear hK K
 refine Ze ?_
 try simp only [go_sem, seval]
 refine ⟨_, rfl, fun k hk => ?_, Frz.eq ?_ trivial⟩
 ·(repeat rw [if_neg (by omega)])
 ·congr 1; first | (simp [hne]; done) | (rw [Bool.eq_iff_iff, decide_eq_true_eq, qry_ext]; grind)
set_option maxRecDepth 100000 in
set_option maxHeartbeats 6400000 in
theorem Vm (a b : CmdE) (ha : a.fits) (H : Heap) (n : Nat) : Ret prog 28 [Zh a, Zh b] H n (.bool (decide (a = b))) H n := by
 have hsza := Yg a.q
 have hszb := Yg b.q
 have haa : (Zq a.q).isAgg = true := rfl
 have hab : (Zq b.q).isAgg = true := rfl
 have hma : (Zq a.q).memOK = true := rfl
 have hmb : (Zq b.q).memOK = true := rfl
 have hca := ha.conds
 have hoa := ha.ops
 have r1 := hsza
 have r2 := hsza
 refine Ret.fin ?_
 refine Zc func28 rfl ntmps28 (congrArg Array.toList results28) (by simp) ?_
 simp only [go_sem]
 refine Za zs [2, 3] fun K hK => ?_
 try simp only [go_sem, seval, Zh, bys, hsza, hszb]
 apply hK; clear hK K
 refine Zb fun K1 hK1 => ?_
 refine Za zs [2, 3, 63] fun K hK => ?_
 try simp only [go_sem, seval, List.length_map, YX]
 repeat (first | refine peel ?_ | refine ⟨by exact fun _ => Y1 _, ?_⟩)
 apply hK; clear hK K
 refine Zf ?_ ?_ <;> intro hb
 ·skip
  have hne : ¬ a = b := fun e => by subst e; simp at hb
  refine Za zs [4] fun K hK => ?_
  try simp only [go_sem, seval]
  apply hK; clear hK K
  refine Ze ?_
  try simp only [go_sem, seval]
  refine ⟨_, rfl, fun k hk => ?_, Frz.eq ?_ trivial⟩
  ·(repeat rw [if_neg (by omega)])
   try exact hlow k hk
  ·congr 1; first | (simp [hne]; done) | (rw [Bool.eq_iff_iff, decide_eq_true_eq, decide_eq_true_eq, cmd_ext]; grind)
 have hl : a.conds.length = b.conds.length ∧ a.ops.length = b.ops.length := by grind
 have hh : a.kind = b.kind ∧ a.client = b.client ∧ a.serial = b.serial ∧ a.row = b.row ∧ a.n = b.n := by grind
 refine Zd ?_
 try simp only [go_sem, seval]
 apply hK1
 clear hK1 K1
 refine Zb fun K2 hK2 => ?_
 refine Za zs [2, 3, 5] fun K hK => ?_
 try simp only [go_sem, seval]
 apply hK; clear hK K
 refine Zk ?_
 refine Zy (fun T' H' n' => ∃ i : Nat, i ≤ a.conds.length ∧ T' = tl [(2, .loc n 0 0 0 []), (3, .loc (n + 1) 0 0 0 []), (5, .int .i64 i)] ∧ H' n = some (.arr 0 17 [Zh a]) ∧ H' (n + 1) = some (.arr 0 17 [Zh b]) ∧ (∀ k, k < n → H' k = H k) ∧ n + 2 ≤ n' ∧ (a.conds.drop i = b.conds.drop i ↔ a.conds = b.conds)) (fun T' _ _ => a.conds.length - iv (T' 5)) ?_ ?_
 ·skip
  exact ⟨0, Nat.zero_le _, rfl, by simp [Heap.put, Zh, bys], by simp [Heap.put, Zh, bys], fun k hk => by simp only [Heap.put_get]; (repeat rw [if_neg (by omega)]), by omega, by simp⟩
 intro T1 H1 n1
 rintro ⟨i, hi, rfl, r1, r2, hlow, hnn, hix⟩
 refine Zb fun K3 hK3 => ?_
 refine Za zs [2, 3, 5, 68] fun K hK => ?_
 try simp only [go_sem, seval, Zh, List.length_map, bys, r1]
 apply hK; clear hK K
 refine Zf ?_ ?_ <;> intro hb
 ·skip
  have hlt : i < a.conds.length := by have := of_decide_eq_true hb; omega
  have hlt2 : i < b.conds.length := by omega
  rw [Z0 a.conds i hlt, Z0 b.conds i hlt2, List.cons.injEq] at hix
  have hn1 : nth (a.conds.map Zt) i = Zt (a.conds.getD i default) := ZG Zt a.conds i hlt
  have hn2 : nth (b.conds.map Zt) i = Zt (b.conds.getD i default) := ZG Zt b.conds i hlt2
  have e1 : (n1 = n) = False := by simp; omega
  have e1' : (n = n1) = False := by simp; omega
  have e2 : (n1 = n + 1) = False := by simp; omega
  have e2' : (n + 1 = n1) = False := by simp; omega
  have e3 : (n1 + 1 = n) = False := by simp; omega
  have e3' : (n = n1 + 1) = False := by simp; omega
  have e4' : (n1 = n) = False := by simp; omega
  have hxx : ∀ x y : YG, (Zt x).sz = (Zt y).sz := fun _ _ => rfl
  refine Zd ?_
  try simp only [go_sem, seval, Zh, bys]
  apply hK3
  clear hK3 K3
  refine Zb fun K4 hK4 => ?_
  refine Zk ?_
  refine Za zs [2, 3, 5, 6] fun K hK => ?_
  try simp only [go_sem, seval, Zh, List.length_map, bys, r1, Int.toNat_natCast, hn1, Zt]
  repeat refine peel ?_
  apply hK; clear hK K
  refine Za zs [2, 3, 5, 6, 7] fun K hK => ?_
  try simp only [go_sem, seval, Zh, List.length_map, bys, r2, Int.toNat_natCast, hn2, Zt, e2']
  repeat refine peel ?_
  apply hK; clear hK K
  refine Za zs [2, 3, 5, 110] fun K hK => ?_
  try simp only [go_sem, seval, Zh, YX, bys]
  repeat (first | refine peel ?_ | refine ⟨by exact fun _ => Y1 _, ?_⟩)
  apply hK; clear hK K
  refine Zf ?_ ?_ <;> intro hb
  ·skip
   have hne : ¬ a = b := fun e => by subst e; simp at hb
   refine Za zs [4] fun K hK => ?_
   try simp only [go_sem, seval, Zh, bys]
   apply hK; clear hK K
   refine Ze ?_
   try simp only [go_sem, seval, Zh, bys]
   refine ⟨_, rfl, fun k hk => ?_, Frz.eq ?_ trivial⟩
   ·(repeat rw [if_neg (by omega)])
    try exact hlow k hk
   ·congr 1; first | (simp [hne]; done) | (rw [Bool.eq_iff_iff, decide_eq_true_eq, decide_eq_true_eq, cmd_ext]; grind)
  have hx : a.conds.getD i default = b.conds.getD i default := by rw [cond_ext]; grind
  have hnext : (a.conds.drop (i + 1) = b.conds.drop (i + 1)) ↔ a.conds = b.conds := by rw [← hix]; simp only [hx, true_and]
  refine Zd ?_
  try simp only [go_sem, seval, Zh, bys]
  apply hK4
  clear hK4 K4
  refine Zl zs [2, 3, 5] fun K hK => ?_
  try simp only [go_sem, seval, Zh, bys]
  apply hK; clear hK K
  try simp only [go_sem, seval, Zh, bys, r1, r2]
  refine ⟨⟨i + 1, by omega, by rw [w1 (by omega)], ?_, ?_, fun k hk => ?_, by omega, hnext⟩, by rw [w1 (by omega)]; simp; omega⟩
  ·simp [Heap.put, e1', e3', r1]
  ·simp [Heap.put, e2', r2]; try omega
  ·(repeat rw [if_neg (by omega)])
   exact hlow k hk
 have hge : i = a.conds.length := by have := of_decide_eq_false hb; omega
 have heq : a.conds = b.conds := by rw [← hix, hge, List.drop_length, hl.1, List.drop_length]
 refine Zz ?_
 try simp only [go_sem, seval, Zh, bys]
 apply hK2
 refine Zb fun K5 hK5 => ?_
 refine Za zs [2, 3, 8] fun K hK => ?_
 try simp only [go_sem, seval]
 apply hK; clear hK K
 refine Zk ?_
 refine Zy (fun T' H' n' => ∃ i : Nat, i ≤ a.ops.length ∧ T' = tl [(2, .loc n 0 0 0 []), (3, .loc (n + 1) 0 0 0 []), (8, .int .i64 i)] ∧ H' n = some (.arr 0 17 [Zh a]) ∧ H' (n + 1) = some (.arr 0 17 [Zh b]) ∧ (∀ k, k < n → H' k = H k) ∧ n + 2 ≤ n' ∧ (a.ops.drop i = b.ops.drop i ↔ a.ops = b.ops)) (fun T' _ _ => a.ops.length - iv (T' 8)) ?_ ?_
 ·skip
  exact ⟨0, Nat.zero_le _, rfl, r1, r2, hlow, hnn, by simp⟩
 intro T1 H1 n1
 rintro ⟨i, hi, rfl, r1, r2, hlow, hnn, hix⟩
 refine Zb fun K6 hK6 => ?_
 refine Za zs [2, 3, 8, 115] fun K hK => ?_
 try simp only [go_sem, seval, Zh, List.length_map, bys, r1]
 apply hK; clear hK K
 refine Zf ?_ ?_ <;> intro hb
 ·skip
  have hlt : i < a.ops.length := by have := of_decide_eq_true hb; omega
  have hlt2 : i < b.ops.length := by omega
  rw [Z0 a.ops i hlt, Z0 b.ops i hlt2, List.cons.injEq] at hix
  have hn1 : nth (a.ops.map opAV) i = opAV (a.ops.getD i default) := ZG opAV a.ops i hlt
  have hn2 : nth (b.ops.map opAV) i = opAV (b.ops.getD i default) := ZG opAV b.ops i hlt2
  have e1 : (n1 = n) = False := by simp; omega
  have e1' : (n = n1) = False := by simp; omega
  have e2 : (n1 = n + 1) = False := by simp; omega
  have e2' : (n + 1 = n1) = False := by simp; omega
  have e3 : (n1 + 1 = n) = False := by simp; omega
  have e3' : (n = n1 + 1) = False := by simp; omega
  have e4' : (n1 = n) = False := by simp; omega
  have hxx : ∀ x y : OpE, (opAV x).sz = (opAV y).sz := fun _ _ => rfl
  refine Zd ?_
  try simp only [go_sem, seval, Zh, bys]
  apply hK6
  clear hK6 K6
  refine Zb fun K7 hK7 => ?_
  refine Zk ?_
  refine Za zs [2, 3, 8, 9] fun K hK => ?_
  try simp only [go_sem, seval, Zh, List.length_map, bys, r1, Int.toNat_natCast, hn1, opAV]
  repeat refine peel ?_
  apply hK; clear hK K
  refine Za zs [2, 3, 8, 9, 10] fun K hK => ?_
  try simp only [go_sem, seval, Zh, List.length_map, bys, r2, Int.toNat_natCast, hn2, opAV, e2']
  repeat refine peel ?_
  apply hK; clear hK K
  refine Za zs [2, 3, 8, 171] fun K hK => ?_
  try simp only [go_sem, seval, Zh, YX, bys]
  repeat (first | refine peel ?_ | refine ⟨by exact fun _ => Y1 _, ?_⟩)
  apply hK; clear hK K
  refine Zf ?_ ?_ <;> intro hb
  ·skip
   have hne : ¬ a = b := fun e => by subst e; simp at hb
   refine Za zs [4] fun K hK => ?_
   try simp only [go_sem, seval, Zh, bys]
   apply hK; clear hK K
   refine Ze ?_
   try simp only [go_sem, seval, Zh, bys]
   refine ⟨_, rfl, fun k hk => ?_, Frz.eq ?_ trivial⟩
   ·(repeat rw [if_neg (by omega)])
    try exact hlow k hk
   ·congr 1; first | (simp [hne]; done) | (rw [Bool.eq_iff_iff, decide_eq_true_eq, decide_eq_true_eq, cmd_ext]; grind)
  have hx : a.ops.getD i default = b.ops.getD i default := by rw [op_ext]; grind
  have hnext : (a.ops.drop (i + 1) = b.ops.drop (i + 1)) ↔ a.ops = b.ops := by rw [← hix]; simp only [hx, true_and]
  refine Zd ?_
  try simp only [go_sem, seval, Zh, bys]
  apply hK7
  clear hK7 K7
  refine Zl zs [2, 3, 8] fun K hK => ?_
  try simp only [go_sem, seval, Zh, bys]
  apply hK; clear hK K
  try simp only [go_sem, seval, Zh, bys, r1, r2]
  refine ⟨⟨i + 1, by omega, by rw [w1 (by omega)], ?_, ?_, fun k hk => ?_, by omega, hnext⟩, by rw [w1 (by omega)]; simp; omega⟩
  ·simp [Heap.put, e1', e3', r1]
  ·simp [Heap.put, e2', r2]; try omega
  ·(repeat rw [if_neg (by omega)])
   exact hlow k hk
 have hge : i = a.ops.length := by have := of_decide_eq_false hb; omega
 have heq2 : a.ops = b.ops := by rw [← hix, hge, List.drop_length, hl.2, List.drop_length]
 refine Zz ?_
 try simp only [go_sem, seval, Zh, bys]
 apply hK5
 refine Za zs [4] fun K hK => ?_
 try simp only [go_sem, seval, Zh, bys, hsza, hszb, haa, hab, r1, r2]
 refine Zg func80 rfl rfl rfl ((Jo a.q b.q ha.fams _ _)) ?_
 try simp only [go_sem, seval]
 apply hK; clear hK K
 refine Ze ?_
 try simp only [go_sem, seval]
 refine ⟨_, rfl, fun k hk => ?_, Frz.eq ?_ trivial⟩
 ·(repeat rw [if_neg (by omega)])
  try exact hlow k hk
 ·congr 1; first | (simp [hne]; done) | (rw [Bool.eq_iff_iff, decide_eq_true_eq, decide_eq_true_eq, cmd_ext]; grind)
def Y4 (r : RepE) : AV := .agg [.sl 2 (r.rows.map Ye), bys r.token, .bool r.done]
theorem row_ext (a b : RowE) : a = b ↔ a.row = b.row ∧ a.cells = b.cells := by cases a; cases b; simp
theorem cel_ext (a b : CelE) : a = b ↔ a.fam = b.fam ∧ a.qual = b.qual ∧ a.ts = b.ts ∧ a.value = b.value := by cases a; cases b; simp
theorem rep_ext (a b : RepE) : a = b ↔ a.err = b.err ∧ a.held = b.held ∧ a.value = b.value ∧ a.rows = b.rows ∧ a.token = b.token ∧ a.done = b.done := by cases a; cases b; simp
set_option maxRecDepth 100000 in
set_option maxHeartbeats 6400000 in
theorem J6 (a b : RepE) (ha : a.rows.length ≤ 1048576) (hc : ∀ x ∈ a.rows, x.cells.length ≤ 1048576) (H : Heap) (n : Nat) : Ret prog 96 [Y4 a, Y4 b] H n (.bool (decide (a.rows = b.rows ∧ a.token = b.token ∧ a.done = b.done))) H n := by
 have r1 : (0 : Nat) = 0 := rfl
 have r2 := r1
 refine Ret.fin ?_
 refine Zc func96 rfl ntmps96 (congrArg Array.toList results96) (by simp) ?_
 simp only [go_sem]
 refine Za zs [2, 3] fun K hK => ?_
 try simp only [go_sem, seval, Y4, bys]
 apply hK; clear hK K
 refine Zb fun K1 hK1 => ?_
 refine Za zs [2, 3, 31] fun K hK => ?_
 try simp only [go_sem, seval, List.length_map, YX]
 repeat (first | refine peel ?_ | refine ⟨by exact fun _ => Y1 _, ?_⟩)
 apply hK; clear hK K
 refine Zf ?_ ?_ <;> intro hb
 ·skip
  have hne : ¬ (a.rows = b.rows ∧ a.token = b.token ∧ a.done = b.done) := fun ⟨e1, e2, e3⟩ => by rw [e1, e2, e3] at hb; simp at hb
  refine Za zs [4] fun K hK => ?_
  try simp only [go_sem, seval]
  apply hK; clear hK K
  refine Ze ?_
  try simp only [go_sem, seval]
  refine ⟨_, rfl, fun k hk => ?_, Frz.eq ?_ trivial⟩
  ·(repeat rw [if_neg (by omega)])
   try exact hlow k hk
  ·congr 1; first | (simp [hne]; done) | (simp [heq, hl.2.1, hl.2.2]; done)
 have hl : a.rows.length = b.rows.length ∧ a.token = b.token ∧ a.done = b.done := by grind
 refine Zd ?_
 try simp only [go_sem, seval]
 apply hK1
 clear hK1 K1
 refine Zb fun K2 hK2 => ?_
 refine Za zs [2, 3, 5] fun K hK => ?_
 try simp only [go_sem, seval]
 apply hK; clear hK K
 refine Zk ?_
 refine Zy (fun T' H' n' => ∃ i : Nat, i ≤ a.rows.length ∧ T' = tl [(2, .loc n 0 0 0 []), (3, .loc (n + 1) 0 0 0 []), (5, .int .i64 i)] ∧ H' n = some (.arr 0 3 [Y4 a]) ∧ H' (n + 1) = some (.arr 0 3 [Y4 b]) ∧ (∀ k, k < n → H' k = H k) ∧ n + 2 ≤ n' ∧ (a.rows.drop i = b.rows.drop i ↔ a.rows = b.rows)) (fun T' _ _ => a.rows.length - iv (T' 5)) ?_ ?_
 ·skip
  exact ⟨0, Nat.zero_le _, rfl, by simp [Heap.put, Y4, bys], by simp [Heap.put, Y4, bys], fun k hk => by simp only [Heap.put_get]; (repeat rw [if_neg (by omega)]), by omega, by simp⟩
 intro T1 H1 n1
 rintro ⟨i, hi, rfl, r1, r2, hlow, hnn, hix⟩
 refine Zb fun K3 hK3 => ?_
 refine Za zs [2, 3, 5, 36] fun K hK => ?_
 try simp only [go_sem, seval, Y4, List.length_map, bys, r1]
 apply hK; clear hK K
 refine Zf ?_ ?_ <;> intro hb
 ·skip
  have hlt : i < a.rows.length := by have := of_decide_eq_true hb; omega
  have hlt2 : i < b.rows.length := by omega
  rw [Z0 a.rows i hlt, Z0 b.rows i hlt2, List.cons.injEq] at hix
  have hn1 : nth (a.rows.map Ye) i = Ye (a.rows.getD i default) := ZG Ye a.rows i hlt
  have hn2 : nth (b.rows.map Ye) i = Ye (b.rows.getD i default) := ZG Ye b.rows i hlt2
  have hcx := hc _ (Wp _ hlt)
  generalize a.rows.getD i default = x at *
  generalize b.rows.getD i default = y at *
  refine Zd ?_
  try simp only [go_sem, seval, Y4, bys]
  apply hK3
  clear hK3 K3
  refine Zb fun K4 hK4 => ?_
  refine Zk ?_
  refine Zb fun K5 hK5 => ?_
  refine YF rfl zs [2, 3, 5, 70] [.q, .q, .m, .q, .q, .q, .q, .q, .q, .m, .q, .q, .q, .q, .q, .m, .q, .q, .m, .q, .q, .q, .q, .q, .q, .m, .q, .q, .q, .q, .q, .q] (by kernel_rfl) (fun _ _ _ _ _ h => h) fun K hK => ?_
  try simp only [go_sem, seval, Y4, List.length_map, YX, bys, r1, r2, Int.toNat_natCast, hn1, hn2, Ye]
  repeat (first | refine peel ?_ | refine ⟨by exact Y1 _, ?_⟩)
  apply hK; clear hK K
  refine Zf ?_ ?_ <;> intro hb
  ·skip
   have hne : ¬ (a.rows = b.rows ∧ a.token = b.token ∧ a.done = b.done) := fun e => by have e2 := (hix.2 e.1).1; subst e2; simp at hb
   refine Za zs [4] fun K hK => ?_
   try simp only [go_sem, seval, Y4, bys]
   apply hK; clear hK K
   refine Ze ?_
   try simp only [go_sem, seval, Y4, bys]
   refine ⟨_, rfl, fun k hk => ?_, Frz.eq ?_ trivial⟩
   ·(repeat rw [if_neg (by omega)])
    try exact hlow k hk
   ·congr 1; first | (simp [hne]; done) | (simp [heq, hl.2.1, hl.2.2]; done)
  have hxy : x.row = y.row ∧ x.cells.length = y.cells.length := by grind
  refine Zd ?_
  try simp only [go_sem, seval, Y4, bys]
  apply hK5
  clear hK5 K5
  refine Za zs [2, 3, 5, 6] fun K hK => ?_
  try simp only [go_sem, seval, Y4, bys]
  apply hK; clear hK K
  refine Zk ?_
  refine Zy (fun T' H' n' => ∃ j : Nat, j ≤ x.cells.length ∧ T' = tl [(2, .loc n 0 0 0 []), (3, .loc (n + 1) 0 0 0 []), (5, .int .i64 i), (6, .int .i64 j)] ∧ H' n = some (.arr 0 3 [Y4 a]) ∧ H' (n + 1) = some (.arr 0 3 [Y4 b]) ∧ (∀ k, k < n → H' k = H k) ∧ n + 2 ≤ n' ∧ (x.cells.drop j = y.cells.drop j ↔ x.cells = y.cells)) (fun T' _ _ => x.cells.length - iv (T' 6)) ?_ ?_
  ·skip
   exact ⟨0, Nat.zero_le _, rfl, r1, r2, hlow, hnn, by simp⟩
  intro T1 H1 n1
  rintro ⟨j, hj, rfl, r1, r2, hlow, hnn, hjx⟩
  refine Zb fun K6 hK6 => ?_
  refine Za zs [2, 3, 5, 6, 79] fun K hK => ?_
  try simp only [go_sem, seval, Y4, List.length_map, bys, r1, Int.toNat_natCast, hn1, Ye]
  repeat refine peel ?_
  apply hK; clear hK K
  refine Zf ?_ ?_ <;> intro hb
  ·skip
   have hjl : j < x.cells.length := by have := of_decide_eq_true hb; omega
   have hjl2 : j < y.cells.length := by omega
   rw [Z0 x.cells j hjl, Z0 y.cells j hjl2, List.cons.injEq] at hjx
   have hm1 : nth (x.cells.map Yv) j = Yv (x.cells.getD j default) := ZG Yv x.cells j hjl
   have hm2 : nth (y.cells.map Yv) j = Yv (y.cells.getD j default) := ZG Yv y.cells j hjl2
   generalize x.cells.getD j default = u at *
   generalize y.cells.getD j default = v at *
   have e1 : (n1 = n) = False := by simp; omega
   have e1' : (n = n1) = False := by simp; omega
   have e2 : (n1 = n + 1) = False := by simp; omega
   have e2' : (n + 1 = n1) = False := by simp; omega
   have e3 : (n1 + 1 = n) = False := by simp; omega
   have e3' : (n = n1 + 1) = False := by simp; omega
   refine Zd ?_
   try simp only [go_sem, seval, Y4, bys]
   apply hK6
   clear hK6 K6
   refine Zb fun K7 hK7 => ?_
   refine Zk ?_
   refine Za zs [2, 3, 5, 6, 7] fun K hK => ?_
   try simp only [go_sem, seval, Y4, List.length_map, bys, r1, Int.toNat_natCast, hn1, hm1, Ye, Yv]
   repeat refine peel ?_
   apply hK; clear hK K
   refine Za zs [2, 3, 5, 6, 7, 8] fun K hK => ?_
   try simp only [go_sem, seval, Y4, List.length_map, bys, r2, Int.toNat_natCast, hn2, hm2, Ye, Yv, e2']
   repeat refine peel ?_
   apply hK; clear hK K
   refine Za zs [2, 3, 5, 6, 129] fun K hK => ?_
   try simp only [go_sem, seval, Y4, YX, bys]
   repeat (first | refine peel ?_ | refine ⟨by exact fun _ => Y1 _, ?_⟩)
   apply hK; clear hK K
   refine Zf ?_ ?_ <;> intro hb
   ·skip
    have hne : ¬ (a.rows = b.rows ∧ a.token = b.token ∧ a.done = b.done) := fun e => by have e2 := (hix.2 e.1).1; subst e2; have e3 := (hjx.2 rfl).1; subst e3; simp at hb
    refine Za zs [4] fun K hK => ?_
    try simp only [go_sem, seval, Y4, bys]
    apply hK; clear hK K
    refine Ze ?_
    try simp only [go_sem, seval, Y4, bys]
    refine ⟨_, rfl, fun k hk => ?_, Frz.eq ?_ trivial⟩
    ·(repeat rw [if_neg (by omega)])
     try exact hlow k hk
    ·congr 1; first | (simp [hne]; done) | (simp [heq, hl.2.1, hl.2.2]; done)
   have huv : u = v := by rw [cel_ext]; grind
   have hnext : (x.cells.drop (j + 1) = y.cells.drop (j + 1)) ↔ x.cells = y.cells := by rw [← hjx]; simp only [huv, true_and]
   refine Zd ?_
   try simp only [go_sem, seval, Y4, bys]
   apply hK7
   clear hK7 K7
   refine Zl zs [2, 3, 5, 6] fun K hK => ?_
   try simp only [go_sem, seval, Y4, bys]
   apply hK; clear hK K
   try simp only [go_sem, seval, Y4, bys, r1, r2]
   refine ⟨⟨j + 1, by omega, by rw [w1 (by omega)], ?_, ?_, fun k hk => ?_, by omega, hnext⟩, by rw [w1 (by omega)]; simp; omega⟩
   ·simp [Heap.put, e1', e3', r1]
   ·simp [Heap.put, e2', r2]; try omega
   ·(repeat rw [if_neg (by omega)])
    exact hlow k hk
  have hge : j = x.cells.length := by have := of_decide_eq_false hb; omega
  have hce : x.cells = y.cells := by rw [← hjx, hge, List.drop_length, hxy.2, List.drop_length]
  have hxe : x = y := by rw [row_ext]; exact ⟨hxy.1, hce⟩
  have hnx : (a.rows.drop (i + 1) = b.rows.drop (i + 1)) ↔ a.rows = b.rows := by rw [← hix]; simp only [hxe, true_and]
  refine Zz ?_
  try simp only [go_sem, seval, Y4, bys]
  apply hK4
  refine Zl zs [2, 3, 5] fun K hK => ?_
  try simp only [go_sem, seval, Y4, bys]
  apply hK; clear hK K
  try simp only [go_sem, seval, Y4, bys, r1, r2]
  exact ⟨⟨i + 1, by omega, by rw [w1 (by omega)], hlow, hnn, hnx⟩, by rw [w1 (by omega)]; simp; omega⟩
 have hge : i = a.rows.length := by have := of_decide_eq_false hb; omega
 have heq : a.rows = b.rows := by rw [← hix, hge, List.drop_length, hl.1, List.drop_length]
 refine Zz ?_
 try simp only [go_sem, seval, Y4, bys]
 apply hK2
 refine Za zs [4] fun K hK => ?_
 try simp only [go_sem, seval]
 apply hK; clear hK K
 refine Ze ?_
 try simp only [go_sem, seval]
 refine ⟨_, rfl, fun k hk => ?_, Frz.eq ?_ trivial⟩
 ·(repeat rw [if_neg (by omega)])
  try exact hlow k hk
 ·congr 1; first | (simp [hne]; done) | (simp [heq, hl.2.1, hl.2.2]; done)
theorem Jp (a b : RepE) (ha : a.rows.length ≤ 1048576) (hc : ∀ x ∈ a.rows, x.cells.length ≤ 1048576) (H : Heap) (n : Nat) : Ret prog 38 [ZM a, ZM b] H n (.bool (decide (a = b))) H n := by
 refine Ret.fin ?_
 refine Zc func38 rfl ntmps38 (congrArg Array.toList results38) (by simp) ?_
 simp only [go_sem]
 refine Za zs [2, 3] fun K hK => ?_
 try simp only [go_sem, seval, ZM, bys]
 apply hK; clear hK K
 refine Zb fun K1 hK1 => ?_
 refine Za zs [2, 3, 23] fun K hK => ?_
 try simp only [go_sem, seval]
 repeat refine peel ?_
 apply hK; clear hK K
 refine Zf ?_ ?_ <;> intro hb
 ·skip
  have hne : ¬ a = b := fun e => by subst e; simp at hb
  refine Za zs [4] fun K hK => ?_
  try simp only [go_sem, seval]
  apply hK; clear hK K
  refine Ze ?_
  try simp only [go_sem, seval]
  refine ⟨_, rfl, fun k hk => ?_, Frz.eq ?_ trivial⟩
  ·(repeat rw [if_neg (by omega)])
  ·congr 1; first | (simp [hne]; done) | (rw [Bool.eq_iff_iff, decide_eq_true_eq, decide_eq_true_eq, rep_ext]; grind)
 have hh : a.err = b.err ∧ a.held = b.held ∧ a.value = b.value := by grind
 refine Zd ?_
 try simp only [go_sem, seval]
 apply hK1
 clear hK1 K1
 refine Za zs [4] fun K hK => ?_
 try simp only [go_sem, seval]
 refine Zg func96 rfl rfl rfl ((J6 a b ha hc _ _)) ?_
 try simp only [go_sem, seval]
 apply hK; clear hK K
 refine Ze ?_
 try simp only [go_sem, seval]
 refine ⟨_, rfl, fun k hk => ?_, Frz.eq ?_ trivial⟩
 ·(repeat rw [if_neg (by omega)])
 ·congr 1; first | (simp [hne]; done) | (rw [Bool.eq_iff_iff, decide_eq_true_eq, decide_eq_true_eq, rep_ext]; grind)
theorem Uw (x lo hi : Int) (H : Heap) (n : Nat) : Ret prog 118 [.int .i64 x, .int .i64 lo, .int .i64 hi] H n (.bool (bout x lo hi)) H n := by
 refine Zc func118 rfl ntmps118 (congrArg Array.toList results118) (by simp) ?_
 simp only [go_sem]
 refine ZB zs [0, 1, 2] ?_
 refine ZB zs [6] ?_
 refine Ze ?_
 try simp only [go_sem, seval]
 unfold bout; by_cases h : x < lo <;> simp [h]
theorem c_ref2_name (s : List UInt8) (H : Heap) (n : Nat) : Ret prog 119 [.str s] H n (.bool (Xo s)) H n := by
 refine Zc func119 rfl ntmps119 (congrArg Array.toList results119) (by simp) ?_
 simp only [go_sem]
 refine ZB zs [0] ?_
 refine Zb fun K1 hK1 => ?_
 refine Za zs [0, 8] fun K hK => ?_
 try simp only [go_sem, seval]
 refine Zg func118 rfl rfl rfl ((by apply Uw <;> first | assumption | omega)) ?_
 apply hK; clear hK K
 refine Zf ?_ ?_ <;> intro hb
 ·skip
  have hend : Xo s = false := by unfold Xo; rw [hb]; rfl
  refine ZB zs [2] ?_
  refine Ze ?_
  try simp only [go_sem, seval]
  rw [hend]
 have hlen := X9 hb
 have hb8 : bout s.length 1 32 = false := hb
 refine Zd ?_
 try simp only [go_sem, seval]
 apply hK1
 clear hK1 K1
 refine Zb fun K2 hK2 => ?_
 refine ZB zs [0, 3] ?_
 refine Zk ?_
 refine Zy (fun T' H' n' => ∃ i : Nat, i ≤ s.length ∧ T' = tl [(0, .str s), (3, .int .i64 i)] ∧ H' = H ∧ n' = n ∧ (s.drop i).all WX = s.all WX ∧ (0 < i → XC (s.getD 0 0) = true)) (fun T' _ _ => s.length - iv (T' 3)) ?_ ?_
 ·skip
  exact ⟨0, Nat.zero_le _, rfl, rfl, rfl, by simp, fun h => absurd h (by decide)⟩
 intro T1 H1 n1
 rintro ⟨i, hi, rfl, rfl, rfl, hall, hl0⟩
 refine Zb fun K3 hK3 => ?_
 refine ZB zs [0, 3, 12] ?_
 refine Zf ?_ ?_ <;> intro hb
 ·skip
  have hlt : i < s.length := by simpa using hb
  rw [Z0 s i hlt, List.all_cons] at hall
  have hg0 : i = 0 → s.getD 0 0 = s.getD i default := fun h => by rw [h]; rfl
  refine Zd ?_
  try simp only [go_sem, seval]
  apply hK3
  clear hK3 K3
  refine Zb fun K4 hK4 => ?_
  refine Zk ?_
  refine Za zs [0, 3, 4] fun K hK => ?_
  try simp only [go_sem, seval, Int.toNat_natCast]
  repeat refine peel ?_
  apply hK; clear hK K
  generalize hc : s.getD i default = c at *
  have hc0 : s.getD i 0 = c := hc
  refine Za zs [0, 3, 4, 5] fun K hK => ?_
  try simp only [go_sem, seval, hc0]
  repeat refine peel ?_
  apply hK; clear hK K
  have hA : (bif decide (97 ≤ (c.toNat : Int)) then decide ((c.toNat : Int) ≤ 122) else false) = XC c := by unfold XC; cases decide (97 ≤ (c.toNat : Int)) <;> rfl
  refine ZB zs [0, 3, 41] ?_
  refine Zf ?_ ?_ <;> intro hb
  ·skip
   rw [hA] at hb
   have hend : Xo s = false := by
     by_cases h0 : i = 0
     ·have h1 : XC c = false := by cases h9 : XC c <;> simp_all
      unfold Xo; rw [hg0 h0, h1]; simp
     ·have h2 : WX c = false := by
        unfold WX
        have h3 : ((i : Int) == 0) = false := by simp; omega
        rw [h3] at hb
        cases h4 : XC c <;> cases h5 : decide ((c.toNat : Int) < 48) <;> cases h6 : decide (57 < (c.toNat : Int)) <;> cases h7 : ((c.toNat : Int) != 95) <;> simp_all
      rw [h2] at hall
      unfold Xo; rw [← hall]; simp
   refine ZB zs [2] ?_
   refine Ze ?_
   try simp only [go_sem, seval]
   rw [hend]
  rw [hA] at hb
  have h2 : WX c = true := by
    unfold WX
    cases h3 : ((i : Int) == 0) <;> rw [h3] at hb <;> cases h4 : XC c <;> cases h5 : decide ((c.toNat : Int) < 48) <;> cases h6 : decide (57 < (c.toNat : Int)) <;> cases h7 : ((c.toNat : Int) != 95) <;> simp_all
  have h3 : XC (s.getD 0 0) = true := by
    by_cases h0 : i = 0
    ·rw [hg0 h0]; cases h9 : XC c <;> simp_all
    ·exact hl0 (by omega)
  rw [h2, Bool.true_and] at hall
  refine Zd ?_
  try simp only [go_sem, seval]
  apply hK4
  clear hK4 K4
  refine Zl zs [0, 3] fun K hK => ?_
  try simp only [go_sem, seval]
  apply hK; clear hK K
  try simp only [go_sem, seval]
  exact ⟨⟨i + 1, by omega, by rw [w1 (by omega)], hall, fun _ => h3⟩, by rw [w1 (by omega)]; simp; omega⟩
 have hge : i = s.length := by simp at hb; omega
 have hend : Xo s = true := by
   unfold Xo
   rw [hb8, hl0 (by omega), ← hall, hge]; simp
 refine Zz ?_
 try simp only [go_sem, seval]
 apply hK2
 refine ZB zs [2] ?_
 refine Ze ?_
 try simp only [go_sem, seval]
 rw [hend]
theorem c_ref2_Family (s : List Fml) (name : List UInt8) (hl : s.length ≤ 1048576) (H : Heap) (n : Nat) : Ret prog 120 [Zu s, .str name] H n (.int .i64 (VB s name 0)) H n := by
 refine Ret.fin ?_
 refine Zc func120 rfl ntmps120 (congrArg Array.toList results120) (by simp) ?_
 simp only [go_sem]
 refine ZB zs [1, 2] ?_
 refine Zb fun K1 hK1 => ?_
 refine ZB zs [1, 2, 5] ?_
 refine Zk ?_
 refine Zy (fun T' H' n' => ∃ i : Nat, i ≤ s.length ∧ T' = tl [(1, .str name), (2, .loc n 0 0 0 []), (5, .int .i64 i)] ∧ H' = H.put n (some (.arr 0 1 [.agg [.sl 3 (s.map XD)]])) ∧ n' = n + 1 ∧ VB (s.drop i) name i = VB s name 0) (fun T' _ _ => s.length - iv (T' 5)) ?_ ?_
 ·skip
  exact ⟨0, Nat.zero_le _, rfl, rfl, rfl, rfl⟩
 intro T1 H1 n1
 rintro ⟨i, hi, rfl, rfl, rfl, hix⟩
 refine Zb fun K2 hK2 => ?_
 refine ZB zs [1, 2, 5, 10] ?_
 refine Zf ?_ ?_ <;> intro hb
 ·skip
  have hlt : i < s.length := by simpa using hb
  rw [Z0 s i hlt, VB] at hix
  have hnth : nth (s.map XD) i = XD (s.getD i default) := ZG XD s i hlt
  refine Zd ?_
  try simp only [go_sem, seval]
  apply hK2
  clear hK2 K2
  refine Zb fun K3 hK3 => ?_
  refine Zk ?_
  refine Za zs [1, 2, 5, 20] fun K hK => ?_
  try simp only [go_sem, seval, Int.toNat_natCast, hnth]
  repeat refine peel ?_
  apply hK; clear hK K
  refine Zf ?_ ?_ <;> intro hb
  ·skip
   have he : (s.getD i default).name = name := by simpa using hb
   rw [if_pos he] at hix
   refine ZB zs [4] ?_
   refine Ze ?_
   try simp only [go_sem, seval]
   refine ⟨_, rfl, ?_, Frz.eq ?_ trivial⟩
   ·intro k hk; have h0 : k ≠ n := by omega
    simp [Heap.put, h0]
   rw [← hix]
  have he : ¬ (s.getD i default).name = name := by simpa using hb
  rw [if_neg he] at hix
  refine Zd ?_
  try simp only [go_sem, seval]
  apply hK3
  clear hK3 K3
  refine Zl zs [1, 2, 5] fun K hK => ?_
  try simp only [go_sem, seval]
  apply hK; clear hK K
  try simp only [go_sem, seval]
  refine ⟨⟨i + 1, by omega, by rw [w1 (by omega)], hix⟩, by rw [w1 (by omega)]; simp; omega⟩
 have hge : i = s.length := by simp at hb; omega
 have hix : (-1 : Int) = VB s name 0 := by rw [← hix, hge]; simp [VB]
 refine Zz ?_
 try simp only [go_sem, seval]
 apply hK1
 refine ZB zs [4] ?_
 refine Ze ?_
 try simp only [go_sem, seval]
 refine ⟨_, rfl, ?_, Frz.eq ?_ trivial⟩
 ·intro k hk; have h0 : k ≠ n := by omega
  simp [Heap.put, h0]
 rw [← hix]
theorem QW (s : List Fml) (H : Heap) (n : Nat) : Ret prog 56 [Zu s] H n (.int .i64 (Z7 s)) H n := by
 refine Ret.fin ?_
 refine Zc func56 rfl ntmps56 (congrArg Array.toList results56) (by simp) ?_
 simp only [go_sem]
 refine ZB zs [1] ?_
 refine Zb fun K1 hK1 => ?_
 refine Za zs [1, 8] fun K hK => ?_
 try simp only [go_sem, seval]
 refine Zg func118 rfl rfl rfl ((by apply Uw <;> first | assumption | omega)) ?_
 apply hK; clear hK K
 refine Zf ?_ ?_ <;> intro hb
 ·skip
  have hres : (28 : Int) = Z7 s := by
    have : bout s.length 1 8 = true := by simpa using hb
    simp [Z7, this]
  refine ZB zs [2] ?_
  refine Ze ?_
  try simp only [go_sem, seval]
  refine ⟨_, rfl, ?_, Frz.eq (by rw [hres]) trivial⟩
  intro k hk; have h0 : k ≠ n := by omega
  (simp [Heap.put, h0]; done)
 have hb8 : bout s.length 1 8 = false := by simpa using hb
 have hlen := X9 hb8
 refine Zd ?_
 try simp only [go_sem, seval]
 apply hK1
 clear hK1 K1
 refine Zb fun K2 hK2 => ?_
 refine ZB zs [1, 3] ?_
 refine Zk ?_
 refine Zy (fun T' H' n' => ∃ i : Nat, i ≤ s.length ∧ T' = tl [(1, .loc n 0 0 0 []), (3, .int .i64 i)] ∧ n + 1 ≤ n' ∧ H' n = some (.arr 0 1 [.agg [.sl 3 (s.map XD)]]) ∧ (∀ k, k < n → H' k = H k) ∧ WO s (s.drop i) i = WO s s 0) (fun T' _ _ => s.length - iv (T' 3)) ?_ ?_
 ·skip
  exact ⟨0, Nat.zero_le _, rfl, by omega, Heap.put_same _ _ _, fun k hk => Heap.put_ne _ _ (by omega), rfl⟩
 intro T1 H1 n1
 rintro ⟨i, hi, rfl, hn, hHn, hH, hix⟩
 refine Zb fun K3 hK3 => ?_
 refine Za zs [1, 3, 13] fun K hK => ?_
 try simp only [go_sem, seval, hHn]
 apply hK; clear hK K
 refine Zf ?_ ?_ <;> intro hb
 ·skip
  have hlt : i < s.length := by simpa using hb
  rw [Z0 s i hlt, Jl] at hix
  have hn1 : (n = n1) = False := by simp; omega
  have hnth : nth (s.map XD) i = XD (s.getD i default) := ZG XD s i hlt
  refine Zd ?_
  try simp only [go_sem, seval]
  apply hK3
  clear hK3 K3
  refine Zb fun K4 hK4 => ?_
  refine Zk ?_
  refine Za zs [1, 3, 4] fun K hK => ?_
  try simp only [go_sem, seval, Int.toNat_natCast, hnth, hHn]
  repeat refine peel ?_
  apply hK; clear hK K
  refine Za zs [1, 3, 42] fun K hK => ?_
  try simp only [go_sem, seval, Int.toNat_natCast]
  refine Zg func119 rfl rfl rfl ((c_ref2_name (s.getD i default).name _ _)) ?_
  try simp only [go_sem, seval]
  refine Zv func118 rfl rfl rfl (fun _ => (Uw (s.getD i default).max 1 16 _ _)) ?_
  try simp only [go_sem, seval]
  repeat refine peel ?_
  refine Zv func118 rfl rfl rfl (fun _ => (Uw (s.getD i default).ttl 0 1099511627776 _ _)) ?_
  try simp only [go_sem, seval, hn1, hHn]
  repeat refine peel ?_
  refine Zv func120 rfl rfl rfl (fun _ => (c_ref2_Family s (s.getD i default).name (by omega) _ _)) ?_
  try simp only [go_sem, seval]
  repeat refine peel ?_
  apply hK; clear hK K
  refine Zf ?_ ?_ <;> intro hb
  ·skip
   have hbad : VX s (s.getD i default) i = true := by
     simp only [VX]; cases h1 : Xo (s.getD i default).name <;> cases h2 : bout (s.getD i default).max 1 16 <;> cases h3 : bout (s.getD i default).ttl 0 1099511627776 <;> simp_all
   have hres : (28 : Int) = Z7 s := by rw [hbad] at hix; simp [Z7, hb8, ← hix]
   refine ZB zs [2] ?_
   refine Ze ?_
   try simp only [go_sem, seval]
   refine ⟨_, rfl, ?_, Frz.eq (by rw [hres]) trivial⟩
   intro k hk; have h0 : k ≠ n := by omega
   (have h1 : k ≠ n1 := (by omega); simp [Heap.put, h0, h1, hH k hk])
  have hbad : VX s (s.getD i default) i = false := by
    simp only [VX]; cases h1 : Xo (s.getD i default).name <;> cases h2 : bout (s.getD i default).max 1 16 <;> cases h3 : bout (s.getD i default).ttl 0 1099511627776 <;> simp_all
  rw [hbad, Bool.false_or] at hix
  refine Zd ?_
  try simp only [go_sem, seval]
  apply hK4
  clear hK4 K4
  refine Zl zs [1, 3] fun K hK => ?_
  try simp only [go_sem, seval]
  apply hK; clear hK K
  try simp only [go_sem, seval]
  refine ⟨⟨i + 1, by omega, by rw [w1 (by omega)], by omega, ?_, ?_, hix⟩, by rw [w1 (by omega)]; simp; omega⟩
  ·simp [hn1, hHn, Zu]
  ·intro k hk; have h0 : k ≠ n1 := by omega
   simp [h0, hH k hk]
 have hge : i = s.length := by simp at hb; omega
 have hres : (0 : Int) = Z7 s := by rw [hge] at hix; simp [WO] at hix; simp [Z7, hb8, hix]
 refine Zz ?_
 try simp only [go_sem, seval]
 apply hK2
 refine ZB zs [2] ?_
 refine Ze ?_
 try simp only [go_sem, seval]
 refine ⟨_, rfl, ?_, Frz.eq (by rw [hres]) trivial⟩
 intro k hk; have h0 : k ≠ n := by omega
 exact hH k hk
def YK (nf : Nat) (c : CmdE) : Int :=
 if c.kind ≠ 4 then (if 0 < c.row.length then 20 else if 0 < c.conds.length then 146 else if 0 < c.ops.length then 144 else 0)
 else if bout c.row.length 1 256 then 20 else if 8 < c.conds.length then 146 else if c.conds.all (Xz nf) = false then 146 else if bout c.ops.length 1 16 then 144 else if c.ops.all (opOK nf) = false then 145 else 0
set_option maxRecDepth 100000 in
set_option maxHeartbeats 3200000 in
theorem c_ref14_lists (s : List Fml) (hs : s.length ≤ 2000000) (c : CmdE) (H : Heap) (n : Nat) : Ret prog 59 [Zu s, Zh c] H n (.int .i64 (YK s.length c)) H n := by
 have hsz := Yg c.q
 have haq : (Zq c.q).isAgg = true := rfl
 have hmq : (Zq c.q).memOK = true := rfl
 have hszs : (Zu s).sz = 1 := rfl
 have hags : (Zu s).isAgg = true := rfl
 have hmos : (Zu s).memOK = true := rfl
 have hv0 : ∀ x, (Zt x).sz = 4 := fun _ => rfl
 have hw0 : ∀ x, (Zt x).isAgg = true := fun _ => rfl
 have hm0 : ∀ x, (Zt x).memOK = true := fun _ => rfl
 have hv1 : ∀ x, (opAV x).sz = 6 := fun _ => rfl
 have hw1 : ∀ x, (opAV x).isAgg = true := fun _ => rfl
 have hm1 : ∀ x, (opAV x).memOK = true := fun _ => rfl
 refine Ret.fin ?_
 refine Zc func59 rfl ntmps59 (congrArg Array.toList results59) (by simp) ?_
 simp only [go_sem]
 refine Za zs [2, 3] fun K hK => ?_
 try simp only [go_sem, seval, Zh, bys, hsz]
 apply hK; clear hK K
 refine Zb fun K1 hK1 => ?_
 refine Za zs [2, 3, 11] fun K hK => ?_
 try simp only [go_sem, seval]
 apply hK; clear hK K
 refine Zf ?_ ?_ <;> intro hb
 ·skip
  have h4 : c.kind ≠ 4 := by simpa using hb
  refine Zb fun K2 hK2 => ?_
  refine Zk ?_
  refine Za zs [3, 12] fun K hK => ?_
  try simp only [go_sem, seval, List.length_map]
  apply hK; clear hK K
  refine Zf ?_ ?_ <;> intro hb
  ·skip
   have h5 : 0 < c.row.length := by simp at hb; omega
   have hd : YK s.length c = 20 := by unfold YK; rw [if_pos h4, if_pos h5]
   refine Za zs [4] fun K hK => ?_
   try simp only [go_sem, seval]
   apply hK; clear hK K
   refine Ze ?_
   try simp only [go_sem, seval]
   refine ⟨_, rfl, fun k hk => ?_, Frz.eq (by rw [hd]) trivial⟩
   (repeat rw [if_neg (by omega)])
  have h5 : ¬ 0 < c.row.length := by have := of_decide_eq_false hb; omega
  refine Za zs [3, 17] fun K hK => ?_
  try simp only [go_sem, seval, List.length_map]
  apply hK; clear hK K
  refine Zf ?_ ?_ <;> intro hb
  ·skip
   have h6 : 0 < c.conds.length := by simp at hb; omega
   have hd : YK s.length c = 146 := by unfold YK; rw [if_pos h4, if_neg h5, if_pos h6]
   refine Za zs [4] fun K hK => ?_
   try simp only [go_sem, seval]
   apply hK; clear hK K
   refine Ze ?_
   try simp only [go_sem, seval]
   refine ⟨_, rfl, fun k hk => ?_, Frz.eq (by rw [hd]) trivial⟩
   (repeat rw [if_neg (by omega)])
  have h6 : ¬ 0 < c.conds.length := by have := of_decide_eq_false hb; omega
  refine Za zs [22] fun K hK => ?_
  try simp only [go_sem, seval, List.length_map]
  apply hK; clear hK K
  refine Zf ?_ ?_ <;> intro hb
  ·skip
   have h7 : 0 < c.ops.length := by simp at hb; omega
   have hd : YK s.length c = 144 := by unfold YK; rw [if_pos h4, if_neg h5, if_neg h6, if_pos h7]
   refine Za zs [4] fun K hK => ?_
   try simp only [go_sem, seval]
   apply hK; clear hK K
   refine Ze ?_
   try simp only [go_sem, seval]
   refine ⟨_, rfl, fun k hk => ?_, Frz.eq (by rw [hd]) trivial⟩
   (repeat rw [if_neg (by omega)])
  have h7 : ¬ 0 < c.ops.length := by have := of_decide_eq_false hb; omega
  have hd : YK s.length c = 0 := by unfold YK; rw [if_pos h4, if_neg h5, if_neg h6, if_neg h7]
  refine Zd ?_
  try simp only [go_sem, seval]
  apply hK2
  clear hK2 K2
  refine Za zs [4] fun K hK => ?_
  try simp only [go_sem, seval]
  apply hK; clear hK K
  refine Ze ?_
  try simp only [go_sem, seval]
  refine ⟨_, rfl, fun k hk => ?_, Frz.eq (by rw [hd]) trivial⟩
  (repeat rw [if_neg (by omega)])
 have h4 : c.kind = 4 := by simpa using hb
 refine Zd ?_
 try simp only [go_sem, seval]
 apply hK1
 clear hK1 K1
 refine Zb fun K3 hK3 => ?_
 refine Za zs [2, 3, 30] fun K hK => ?_
 try simp only [go_sem, seval, List.length_map]
 refine Zg func57 rfl rfl rfl ((Ym c.row.length 1 256 _ _)) ?_
 apply hK; clear hK K
 refine Zf ?_ ?_ <;> intro hb
 ·skip
  have h8 : bout c.row.length 1 256 = true := hb
  have hd : YK s.length c = 20 := by unfold YK; simp [h4, h8]
  refine Za zs [4] fun K hK => ?_
  try simp only [go_sem, seval]
  apply hK; clear hK K
  refine Ze ?_
  try simp only [go_sem, seval]
  refine ⟨_, rfl, fun k hk => ?_, Frz.eq (by rw [hd]) trivial⟩
  (repeat rw [if_neg (by omega)])
 have h8 : bout c.row.length 1 256 = false := hb
 refine Zd ?_
 try simp only [go_sem, seval]
 apply hK3
 clear hK3 K3
 refine Zb fun K4 hK4 => ?_
 refine Za zs [2, 3, 34] fun K hK => ?_
 try simp only [go_sem, seval, List.length_map]
 apply hK; clear hK K
 refine Zf ?_ ?_ <;> intro hb
 ·skip
  have h9 : 8 < c.conds.length := by simp at hb; omega
  have hd : YK s.length c = 146 := by unfold YK; simp [h4, h8, h9]
  refine Za zs [4] fun K hK => ?_
  try simp only [go_sem, seval]
  apply hK; clear hK K
  refine Ze ?_
  try simp only [go_sem, seval]
  refine ⟨_, rfl, fun k hk => ?_, Frz.eq (by rw [hd]) trivial⟩
  (repeat rw [if_neg (by omega)])
 have h9 : ¬ 8 < c.conds.length := by simp at hb; omega
 refine Zd ?_
 try simp only [go_sem, seval]
 apply hK4
 clear hK4 K4
 refine Zb fun K5 hK5 => ?_
 refine Za zs [2, 3, 5] fun K hK => ?_
 try simp only [go_sem, seval]
 apply hK; clear hK K
 refine Zk ?_
 refine Zy (fun T' H' n' => ∃ i : Nat, i ≤ c.conds.length ∧ T' = tl [(2, .loc n 0 0 0 []), (3, .loc (n + 1) 0 0 0 []), (5, .int .i64 i)] ∧ H' = (H.put n (some (.arr 0 1 [Zu s]))).put (n + 1) (some (.arr 0 17 [Zh c])) ∧ n' = n + 2 ∧ c.conds.all (Xz s.length) = (c.conds.drop i).all (Xz s.length)) (fun T' _ _ => c.conds.length - iv (T' 5)) ?_ ?_
 ·skip
  exact ⟨0, Nat.zero_le _, rfl, rfl, rfl, by simp⟩
 intro T1 H1 n1
 rintro ⟨i, hi, rfl, rfl, rfl, hix⟩
 refine Zb fun K6 hK6 => ?_
 refine Za zs [2, 3, 5, 39] fun K hK => ?_
 try simp only [go_sem, seval, Zh, List.length_map, bys]
 apply hK; clear hK K
 refine Zf ?_ ?_ <;> intro hb
 ·skip
  have hlt : i < c.conds.length := by have := of_decide_eq_true hb; omega
  rw [WQ _ _ hlt] at hix
  have hn1 : nth (c.conds.map Zt) i = Zt (c.conds.getD i default) := ZG Zt c.conds i hlt
  generalize c.conds.getD i default = x at *
  refine Zd ?_
  try simp only [go_sem, seval, Zh, bys]
  apply hK6
  clear hK6 K6
  refine Zb fun K7 hK7 => ?_
  refine Zk ?_
  refine YF rfl zs [2, 3, 5, 6] [.q, .q, .q, .m, .q, .q, .c, .q] (by kernel_rfl) (fun _ _ _ _ _ h => h) fun K hK => ?_
  try simp only [go_sem, seval, Zh, List.length_map, bys, Int.toNat_natCast, hn1, hv0, hw0]
  repeat refine peel ?_
  refine ZL func121 rfl rfl rfl (fun _ n => (c_ref14_cond s hs x _ _)) ?_
  try simp only [go_sem, seval]
  apply hK; clear hK K
  refine Za zs [2, 3, 5, 50] fun K hK => ?_
  try simp only [go_sem, seval, Zh, bys]
  apply hK; clear hK K
  refine Zf ?_ ?_ <;> intro hb
  ·skip
   have hx : Xz s.length x = false := by simpa using hb
   have hd : YK s.length c = 146 := by unfold YK; simp_all
   refine Za zs [4] fun K hK => ?_
   try simp only [go_sem, seval, Zh, bys]
   apply hK; clear hK K
   refine Ze ?_
   try simp only [go_sem, seval, Zh, bys]
   refine ⟨_, rfl, fun k hk => ?_, Frz.eq (by rw [hd]) trivial⟩
   (repeat rw [if_neg (by omega)])
  have hx : Xz s.length x = true := by simpa using hb
  rw [hx, Bool.true_and] at hix
  refine Zd ?_
  try simp only [go_sem, seval, Zh, bys]
  apply hK7
  clear hK7 K7
  refine Zl zs [2, 3, 5] fun K hK => ?_
  try simp only [go_sem, seval, Zh, bys]
  apply hK; clear hK K
  try simp only [go_sem, seval, Zh, bys]
  exact ⟨⟨i + 1, by omega, by rw [w1 (by omega)], hix⟩, by rw [w1 (by omega)]; simp; omega⟩
 have hall0 : c.conds.all (Xz s.length) = true := by have : i = c.conds.length := (by have := of_decide_eq_false hb; omega); rw [hix, this]; simp
 refine Zz ?_
 try simp only [go_sem, seval, Zh, bys]
 apply hK5
 refine Zb fun K8 hK8 => ?_
 refine Za zs [2, 3, 54] fun K hK => ?_
 try simp only [go_sem, seval, List.length_map]
 refine Zg func57 rfl rfl rfl ((Ym c.ops.length 1 16 _ _)) ?_
 apply hK; clear hK K
 refine Zf ?_ ?_ <;> intro hb
 ·skip
  have h10 : bout c.ops.length 1 16 = true := hb
  have hd : YK s.length c = 144 := by unfold YK; rw [if_neg (by simp [h4]), if_neg (by rw [h8]; simp), if_neg h9, if_neg (by rw [hall0]; simp), if_pos h10]
  refine Za zs [4] fun K hK => ?_
  try simp only [go_sem, seval]
  apply hK; clear hK K
  refine Ze ?_
  try simp only [go_sem, seval]
  refine ⟨_, rfl, fun k hk => ?_, Frz.eq (by rw [hd]) trivial⟩
  (repeat rw [if_neg (by omega)])
 have h10 : bout c.ops.length 1 16 = false := hb
 have hol := X9 h10
 refine Zd ?_
 try simp only [go_sem, seval]
 apply hK8
 clear hK8 K8
 refine Zb fun K9 hK9 => ?_
 refine Za zs [2, 3, 7] fun K hK => ?_
 try simp only [go_sem, seval]
 apply hK; clear hK K
 refine Zk ?_
 refine Zy (fun T' H' n' => ∃ i : Nat, i ≤ c.ops.length ∧ T' = tl [(2, .loc n 0 0 0 []), (3, .loc (n + 1) 0 0 0 []), (7, .int .i64 i)] ∧ H' = (H.put n (some (.arr 0 1 [Zu s]))).put (n + 1) (some (.arr 0 17 [Zh c])) ∧ n' = n + 2 ∧ c.ops.all (opOK s.length) = (c.ops.drop i).all (opOK s.length)) (fun T' _ _ => c.ops.length - iv (T' 7)) ?_ ?_
 ·skip
  exact ⟨0, Nat.zero_le _, rfl, rfl, rfl, by simp⟩
 intro T1 H1 n1
 rintro ⟨i, hi, rfl, rfl, rfl, hix⟩
 refine Zb fun K10 hK10 => ?_
 refine Za zs [2, 3, 7, 59] fun K hK => ?_
 try simp only [go_sem, seval, Zh, List.length_map, bys]
 apply hK; clear hK K
 refine Zf ?_ ?_ <;> intro hb
 ·skip
  have hlt : i < c.ops.length := by have := of_decide_eq_true hb; omega
  rw [WQ _ _ hlt] at hix
  have hn1 : nth (c.ops.map opAV) i = opAV (c.ops.getD i default) := ZG opAV c.ops i hlt
  generalize c.ops.getD i default = x at *
  refine Zd ?_
  try simp only [go_sem, seval, Zh, bys]
  apply hK10
  clear hK10 K10
  refine Zb fun K11 hK11 => ?_
  refine Zk ?_
  refine YF rfl zs [2, 3, 7, 8] [.q, .q, .q, .m, .q, .q, .c, .q] (by kernel_rfl) (fun _ _ _ _ _ h => h) fun K hK => ?_
  try simp only [go_sem, seval, Zh, List.length_map, bys, Int.toNat_natCast, hn1, hv1, hw1]
  repeat refine peel ?_
  refine ZL func122 rfl rfl rfl (fun _ n => (c_ref14_op s hs x _ _)) ?_
  try simp only [go_sem, seval]
  apply hK; clear hK K
  refine Za zs [2, 3, 7, 70] fun K hK => ?_
  try simp only [go_sem, seval, Zh, bys]
  apply hK; clear hK K
  refine Zf ?_ ?_ <;> intro hb
  ·skip
   have hx : opOK s.length x = false := by simpa using hb
   have hd : YK s.length c = 145 := by unfold YK; rw [if_neg (by simp [h4]), if_neg (by rw [h8]; simp), if_neg h9, if_neg (by rw [hall0]; simp), if_neg (by rw [h10]; simp), if_pos (by rw [hix, hx]; rfl)]
   refine Za zs [4] fun K hK => ?_
   try simp only [go_sem, seval, Zh, bys]
   apply hK; clear hK K
   refine Ze ?_
   try simp only [go_sem, seval, Zh, bys]
   refine ⟨_, rfl, fun k hk => ?_, Frz.eq (by rw [hd]) trivial⟩
   (repeat rw [if_neg (by omega)])
  have hx : opOK s.length x = true := by simpa using hb
  rw [hx, Bool.true_and] at hix
  refine Zd ?_
  try simp only [go_sem, seval, Zh, bys]
  apply hK11
  clear hK11 K11
  refine Zl zs [2, 3, 7] fun K hK => ?_
  try simp only [go_sem, seval, Zh, bys]
  apply hK; clear hK K
  try simp only [go_sem, seval, Zh, bys]
  exact ⟨⟨i + 1, by omega, by rw [w1 (by omega)], hix⟩, by rw [w1 (by omega)]; simp; omega⟩
 have hall1 : c.ops.all (opOK s.length) = true := by have : i = c.ops.length := (by have := of_decide_eq_false hb; omega); rw [hix, this]; simp
 have hd : YK s.length c = 0 := by unfold YK; rw [if_neg (by simp [h4]), if_neg (by rw [h8]; simp), if_neg h9, if_neg (by rw [hall0]; simp), if_neg (by rw [h10]; simp), if_neg (by rw [hall1]; simp)]
 refine Zz ?_
 try simp only [go_sem, seval, Zh, bys]
 apply hK9
 refine Za zs [4] fun K hK => ?_
 try simp only [go_sem, seval]
 apply hK; clear hK K
 refine Ze ?_
 try simp only [go_sem, seval]
 refine ⟨_, rfl, fun k hk => ?_, Frz.eq (by rw [hd]) trivial⟩
 (repeat rw [if_neg (by omega)])
theorem mod128 (x : Nat) : AV.int .u8 (IntKind.u8.wrap (IntKind.u64.wrap (128 + (x : Int).tmod 128))) = Zo (UInt8.ofNat (x % 128 + 128)) := by
 have h1 : (x : Int).tmod 128 = ((x % 128 : Nat) : Int) := by rw [Int.tmod_eq_emod_of_nonneg (by omega)]; omega
 rw [h1, show (128 : Int) + ((x % 128 : Nat) : Int) = ((x % 128 + 128 : Nat) : Int) by omega, YJ, XB _ (by omega), Y0, J8]
theorem o_ref1_Uint (v : Nat) (hv : v < 18446744073709551616) (H : Heap) (n : Nat) : Ret prog 134 [.int .u64 v] H n (.osl n (Zm v).length 0 (Zm v).length) (H.put n (some (.arr (Zm v).length 1 ((Zm v).map Zo)))) (n + 1) := by
 have hlen := ZI hv
 refine Zc func134 rfl ntmps134 (congrArg Array.toList results134) (by simp) ?_
 simp only [go_sem]
 refine Za zs [0] fun K hK => ?_
 try simp only [go_sem, seval]
 apply hK; clear hK K
 refine Za zs [0, 3] fun K hK => ?_
 try simp only [go_sem, seval]
 apply hK; clear hK K
 refine Zb fun K1 hK1 => ?_
 refine Zk ?_
 refine Yy 3 1 rfl ?_
 refine Y2 [0, 3] ?_
 simp only [go_sem, seval]
 refine Zy (fun T' H' n' => ∃ (b : List UInt8) (x : Nat), b ++ Zm x = Zm v ∧ x < 18446744073709551616 ∧ T' = tl [(0, .int .u64 x), (3, .osl n b.length 0 b.length)] ∧ H' = H.put n (some (.arr b.length 1 (b.map Zo))) ∧ n' = n + 1) (fun T' _ _ => iv (T' 0)) ?_ ?_
 ·skip
  exact ⟨[], v, rfl, hv, rfl, rfl, rfl⟩
 intro T1 H1 n1
 rintro ⟨b, x, hbx, hx, rfl, rfl, rfl⟩
 refine Zb fun K2 hK2 => ?_
 refine Za zs [0, 3, 5] fun K hK => ?_
 try simp only [go_sem, seval]
 apply hK; clear hK K
 refine Zf ?_ ?_ <;> intro hb
 ·skip
  have hge : 128 ≤ x := by have := of_decide_eq_true hb; omega
  rw [UH hge] at hbx
  have hbl : b.length ≤ 10 := by have := congrArg List.length hbx; simp at this; omega
  have hdv : (x : Int).tdiv 128 = ((x / 128 : Nat) : Int) := by rw [Int.tdiv_eq_ediv_of_nonneg (by omega)]; omega
  have hwr : IntKind.u64.wrap ((x / 128 : Nat) : Int) = ((x / 128 : Nat) : Int) := by rw [YJ, XB _ (by omega)]
  refine Zd ?_
  try simp only [go_sem, seval]
  apply hK2
  clear hK2 K2
  refine Zk ?_
  refine Za zs [0, 3] fun K hK => ?_
  try simp only [go_sem, seval, mod128, List.length_map]
  repeat (first | refine peel ?_ | (refine And.intro ?_ ?_; · first | exact ⟨rfl, by simp [AV.sz, AV.memOK]⟩ | exact ⟨by omega, .inr trivial, by omega, by omega⟩))
  apply hK; clear hK K
  refine Zl zs [0, 3] fun K hK => ?_
  try simp only [go_sem, seval, hdv, hwr]
  apply hK; clear hK K
  try simp only [go_sem, seval]
  refine ⟨⟨b ++ [UInt8.ofNat (x % 128 + 128)], x / 128, by rw [List.append_assoc]; exact hbx, by omega, ?_, ?_⟩, by simp [iv]; omega⟩
  ·rw [List.length_append]; rfl
  ·rw [List.take_of_length_le (by simp), List.map_append, List.length_append]; rfl
 have hlt : x < 128 := by have := of_decide_eq_false hb; omega
 rw [WT hlt] at hbx
 have hbl : b.length ≤ 10 := by have := congrArg List.length hbx; simp at this; omega
 refine Zz ?_
 try simp only [go_sem, seval]
 apply hK1
 refine Za zs [2] fun K hK => ?_
 try simp only [go_sem, seval, Y0, J8, List.length_map]
 repeat (first | refine peel ?_ | (refine And.intro ?_ ?_; · first | exact ⟨rfl, by simp [AV.sz, AV.memOK]⟩ | exact ⟨by omega, .inr trivial, by omega, by omega⟩))
 apply hK; clear hK K
 refine Ze ?_
 try simp only [go_sem, seval]
 rw [← hbx, List.take_of_length_le (by simp), List.map_append, List.length_append]
 exact ⟨rfl, rfl⟩
theorem c_ref1_Uint (v : Nat) (hv : v < 18446744073709551616) (H : Heap) (n : Nat) : Ret prog 134 [.int .u64 v] H n (bys (Zm v)) H n :=
 Ret.fin ((o_ref1_Uint v hv H n).mono fun res H1 n1 ⟨hr, hH, hn⟩ => ⟨_, hr, fun k hk => by rw [hH, Heap.put_ne _ _ (by omega)], by
   rw [hH]; exact .osl (Heap.put_same _ _ _) (Nat.le_refl _) (by simp) (by rw [List.drop_zero, List.take_of_length_le (by simp)]; exact YE _ (YQ _ n))⟩)
theorem o_ref1_Bytes (b : List UInt8) (hb : b.length ≤ 1099511627776) (H : Heap) (n : Nat) : Ret prog 135 [bys b] H n (.osl n ((Zm b.length).length + 1) 0 (Zp b).length) (H.put n (some (.arr ((Zm b.length).length + 1) 1 ((Zp b).map Zo)))) (n + 1) := by
 have hlen := ZI (v := b.length) (by omega)
 have hu : u64 (b.length : Int) = b.length := XB _ (by omega)
 refine Zc func135 rfl ntmps135 (congrArg Array.toList results135) (by simp) ?_
 simp only [go_sem]
 refine Za zs [0] fun K hK => ?_
 try simp only [go_sem, seval]
 apply hK; clear hK K
 refine Za zs [2] fun K hK => ?_
 try simp only [go_sem, seval, List.length_map, YJ, hu]
 refine Zg func134 rfl rfl rfl ((o_ref1_Uint b.length (by omega) _ _)) ?_
 try simp only [go_sem, seval, List.length_map]
 repeat (first | refine peel ?_ | refine ⟨by exact ⟨by omega, .inr trivial, by omega, by omega⟩, ?_⟩)
 apply hK; clear hK K
 refine Ze ?_
 try simp only [go_sem, seval]
 refine ⟨by simp [Zp], ?_⟩
 funext k; simp only [Heap.put_get]
 by_cases hk : k = n
 ·simp [hk, Zp, List.take_of_length_le]
 ·simp [hk]
theorem c_ref1_Bytes (b : List UInt8) (hb : b.length ≤ 1099511627776) (H : Heap) (n : Nat) : Ret prog 135 [bys b] H n (bys (Zp b)) H n :=
 Ret.fin ((o_ref1_Bytes b hb H n).mono fun res H1 n1 ⟨hr, hH, hn⟩ => ⟨_, hr, fun k hk => by rw [hH, Heap.put_ne _ _ (by omega)], by
   rw [hH]; exact .osl (Heap.put_same _ _ _) (Nat.le_refl _) (by simp) (by rw [List.drop_zero, List.take_of_length_le (by simp)]; exact YE _ (YQ _ n))⟩)
theorem YL {kb ver : Nat} {bs : List UInt8} {H : Heap} {n : Nat} (hB : H kb = some (.arr ver 1 (bs.map Zo))) (x : Int) (hM : bs.length + 10 ≤ 70368744177664) :
   Ret prog 88 [.osl kb ver 0 bs.length, .int .i64 x] H n (.osl kb (ver + 1) 0 (bs ++ Zm (u64 x)).length) (H.put kb (some (.arr (ver + 1) 1 ((bs ++ Zm (u64 x)).map Zo)))) n := by
 have hlen := ZI (Xc x)
 refine Zc func88 rfl ntmps88 (congrArg Array.toList results88) (by simp) ?_
 simp only [go_sem]
 refine Za zs [0, 1] fun K hK => ?_
 try simp only [go_sem, seval]
 apply hK; clear hK K
 refine Za zs [4] fun K hK => ?_
 try simp only [go_sem, seval, YJ]
 refine Zg func134 rfl rfl rfl ((c_ref1_Uint (u64 x) (Xc x) _ _)) ?_
 try simp only [go_sem, seval, List.length_map, hB]
 repeat (first | refine peel ?_ | refine ⟨by exact ⟨by omega, .inr trivial, by omega, by omega⟩, ?_⟩)
 apply hK; clear hK K
 refine Ze ?_
 try simp only [go_sem, seval]
 rw [List.length_append, List.map_append, List.take_of_length_le (by simp)]
 exact ⟨rfl, rfl⟩
theorem YV {kb ver : Nat} {bs : List UInt8} {H : Heap} {n : Nat} (hB : H kb = some (.arr ver 1 (bs.map Zo))) (x : List UInt8) (hx : x.length ≤ 1099511627776) (hM : bs.length + 10 + x.length ≤ 70368744177664) :
   Ret prog 90 [.osl kb ver 0 bs.length, bys x] H n (.osl kb (ver + 1) 0 (bs ++ Zp x).length) (H.put kb (some (.arr (ver + 1) 1 ((bs ++ Zp x).map Zo)))) n := by
 have hlen := ZI (v := x.length) (by omega)
 have hl2 : (Zp x).length = (Zm x.length).length + x.length := by simp [Zp]
 refine Zc func90 rfl ntmps90 (congrArg Array.toList results90) (by simp) ?_
 simp only [go_sem]
 refine Za zs [0, 1] fun K hK => ?_
 try simp only [go_sem, seval]
 apply hK; clear hK K
 refine Za zs [4] fun K hK => ?_
 try simp only [go_sem, seval]
 refine Zg func135 rfl rfl rfl ((c_ref1_Bytes x hx _ _)) ?_
 try simp only [go_sem, seval, List.length_map, hB]
 repeat (first | refine peel ?_ | refine ⟨by exact ⟨by omega, .inr trivial, by omega, by omega⟩, ?_⟩)
 apply hK; clear hK K
 refine Ze ?_
 try simp only [go_sem, seval]
 rw [List.length_append, List.map_append, List.take_of_length_le (by simp)]
 exact ⟨rfl, rfl⟩
theorem c_ref14_flag {kb ver : Nat} {bs : List UInt8} {H : Heap} {n : Nat} (hB : H kb = some (.arr ver 1 (bs.map Zo))) (x : Bool) (hM : bs.length + 10 ≤ 70368744177664) :
   Ret prog 89 [.osl kb ver 0 bs.length, .bool x] H n (.osl kb (ver + 1) 0 (bs ++ Ww x).length) (H.put kb (some (.arr (ver + 1) 1 ((bs ++ Ww x).map Zo)))) n := by
 refine Zc func89 rfl ntmps89 (congrArg Array.toList results89) (by simp) ?_
 simp only [go_sem]
 refine Za zs [0, 1] fun K hK => ?_
 try simp only [go_sem, seval]
 apply hK; clear hK K
 refine Zb fun K1 hK1 => ?_
 refine Za zs [0, 5] fun K hK => ?_
 try simp only [go_sem, seval]
 apply hK; clear hK K
 refine Zf ?_ ?_ <;> intro hb
 ·skip
  subst hb
  refine Za zs [4] fun K hK => ?_
  try simp only [go_sem, seval, List.length_map, hB]
  repeat (first | refine peel ?_ | refine ⟨by exact ⟨by omega, .inr trivial, by omega, by omega⟩, ?_⟩)
  apply hK; clear hK K
  refine Ze ?_
  try simp only [go_sem, seval]
  refine ⟨by simp [Ww], ?_⟩
  rw [List.map_append, List.take_of_length_le (by simp)]
  rfl
 subst hb
 refine Zd ?_
 try simp only [go_sem, seval]
 apply hK1
 clear hK1 K1
 refine Za zs [4] fun K hK => ?_
 try simp only [go_sem, seval, List.length_map, hB]
 repeat (first | refine peel ?_ | refine ⟨by exact ⟨by omega, .inr trivial, by omega, by omega⟩, ?_⟩)
 apply hK; clear hK K
 refine Ze ?_
 try simp only [go_sem, seval]
 refine ⟨by simp [Ww], ?_⟩
 rw [List.map_append, List.take_of_length_le (by simp)]
 rfl
theorem eight_u64 (x : Int) {j : Nat} (h : j < 8) : AV.int .u8 (IntKind.u8.wrap ((u64 x : Int).fdiv (2 ^ min ((u64 (56 - 8 * (j : Int)) : Nat) : Int).toNat 64))) = Zo (ZU (x / 2 ^ (56 - 8 * j))) := by
 have hs : ((u64 (56 - 8 * (j : Int)) : Nat) : Int).toNat = 56 - 8 * j := by unfold u64; omega
 rw [hs, show min (56 - 8 * j) 64 = 56 - 8 * j by omega, fdiv_pow, Y0]
 have key : ((u64 x : Int) / 2 ^ (56 - 8 * j)) % 256 = (x / 2 ^ (56 - 8 * j)) % 256 := by
   unfold u64
   rcases j with _ | _ | _ | _ | _ | _ | _ | _ | j <;> first | omega | (simp only [Nat.reduceMul, Nat.reduceSub, Nat.reduceAdd, Nat.zero_add, Int.reducePow]; omega)
 unfold ZU
 rw [key]
theorem c_ref14_delta (x : Int) (H : Heap) (n : Nat) : Ret prog 126 [.int .i64 x] H n (bys (XJ x)) H n := by
 refine Ret.fin ?_
 refine Zc func126 rfl ntmps126 (congrArg Array.toList results126) (by simp) ?_
 simp only [go_sem]
 refine Za zs [0] fun K hK => ?_
 try simp only [go_sem, seval]
 apply hK; clear hK K
 refine Za zs [3] fun K hK => ?_
 try simp only [go_sem, seval, YJ]
 apply hK; clear hK K
 refine Za zs [3, 4] fun K hK => ?_
 try simp only [go_sem, seval]
 apply hK; clear hK K
 refine Zb fun K1 hK1 => ?_
 refine Za zs [3, 4, 5] fun K hK => ?_
 try simp only [go_sem, seval]
 apply hK; clear hK K
 refine Zk ?_
 refine Yy 4 1 rfl ?_
 refine Y2 [3, 4, 5] ?_
 simp only [go_sem, seval]
 refine Zy (fun T' H' n' => ∃ j : Nat, j ≤ 8 ∧ T' = tl [(3, .int .u64 (u64 x)), (4, .osl n j 0 j), (5, .int .i64 (56 - 8 * j))] ∧ H' = H.put n (some (.arr j 1 (((XJ x).take j).map Zo))) ∧ n' = n + 1) (fun T' _ _ => iv8 (T' 5)) ?_ ?_
 ·skip
  exact ⟨0, by omega, rfl, rfl, rfl⟩
 intro T1 H1 n1
 rintro ⟨j, hj, rfl, rfl, rfl⟩
 refine Zb fun K2 hK2 => ?_
 refine Za zs [3, 4, 5, 9] fun K hK => ?_
 try simp only [go_sem, seval]
 apply hK; clear hK K
 refine Zf ?_ ?_ <;> intro hb
 ·skip
  have hlt : j < 8 := by have := of_decide_eq_true hb; omega
  have he := eight_u64 x hlt
  have e2 : IntKind.i64.wrap (56 - 8 * (j : Int) - 8) = 56 - 8 * ((j + 1 : Nat) : Int) := by rw [w64 (by omega) (by omega)]; omega
  refine Zd ?_
  try simp only [go_sem, seval]
  apply hK2
  clear hK2 K2
  refine Zb fun K3 hK3 => ?_
  refine Zk ?_
  refine Zl zs [3, 4, 5] fun K hK => ?_
  try simp only [go_sem, seval, List.length_map, YJ, he]
  repeat (first | refine peel ?_ | (refine And.intro ?_ ?_; · first | exact ⟨rfl, by simp [AV.sz, AV.memOK]⟩ | exact ⟨by simp [WH]; omega, .inr trivial, by omega, by omega⟩))
  apply hK; clear hK K
  try simp only [go_sem, seval]
  apply hK3
  clear hK3 K3
  refine Zl zs [3, 4, 5] fun K hK => ?_
  try simp only [go_sem, seval, e2]
  apply hK; clear hK K
  try simp only [go_sem, seval]
  refine ⟨⟨j + 1, by omega, rfl, ?_⟩, ?_⟩
  ·rw [List.take_of_length_le (by simp; omega), ← eight_take x hlt, List.map_append]; rfl
  ·show (56 - 8 * ((j + 1 : Nat) : Int) + 8).toNat < (56 - 8 * (j : Int) + 8).toNat
   omega
 have hge : j = 8 := by have := of_decide_eq_false hb; omega
 refine Zz ?_
 try simp only [go_sem, seval]
 apply hK1
 refine Za zs [2] fun K hK => ?_
 try simp only [go_sem, seval]
 apply hK; clear hK K
 refine Ze ?_
 try simp only [go_sem, seval]
 subst hge
 refine ⟨_, rfl, fun k hk => by rw [if_neg (by omega)], .osl (Heap.put_same _ _ _) (Nat.le_refl _) (by simp [WH]) ?_⟩
 rw [List.take_of_length_le (by simp [WH]), List.drop_zero, List.take_of_length_le (by simp [WH])]
 exact YE _ (YQ _ n)
theorem Wt (a b : List UInt8) (ha : a.length ≤ 1099511627776) (H : Heap) (n : Nat) : Ret prog 19 [bys a, bys b] H n (.bool (decide (a = b))) H n := by
 refine Zc func19 rfl ntmps19 (congrArg Array.toList results19) (by simp) ?_
 simp only [go_sem]
 refine Za zs [0, 1] fun K hK => ?_
 try simp only [go_sem, seval]
 apply hK; clear hK K
 refine Zb fun K1 hK1 => ?_
 refine Za zs [0, 1, 10] fun K hK => ?_
 try simp only [go_sem, seval, List.length_map]
 apply hK; clear hK K
 refine Zf ?_ ?_ <;> intro hb
 ·skip
  have hne : ¬ a = b := fun e => by rw [e] at hb; simp at hb
  refine Za zs [4] fun K hK => ?_
  try simp only [go_sem, seval]
  apply hK; clear hK K
  refine Ze ?_
  try simp only [go_sem, seval]
  simp [hne]
 have hl : a.length = b.length := by simp at hb; omega
 refine Zd ?_
 try simp only [go_sem, seval]
 apply hK1
 clear hK1 K1
 refine Zb fun K2 hK2 => ?_
 refine Za zs [0, 1, 5] fun K hK => ?_
 try simp only [go_sem, seval]
 apply hK; clear hK K
 refine Zk ?_
 refine Zy (fun T' H' n' => ∃ i : Nat, i ≤ a.length ∧ T' = tl [(0, bys a), (1, bys b), (5, .int .i64 i)] ∧ H' = H ∧ n' = n ∧ (a.drop i = b.drop i ↔ a = b)) (fun T' _ _ => a.length - iv (T' 5)) ?_ ?_
 ·skip
  exact ⟨0, Nat.zero_le _, rfl, rfl, rfl, by simp⟩
 intro T1 H1 n1
 rintro ⟨i, hi, rfl, rfl, rfl, hix⟩
 refine Zb fun K3 hK3 => ?_
 refine Za zs [0, 1, 5, 14] fun K hK => ?_
 try simp only [go_sem, seval, List.length_map]
 apply hK; clear hK K
 refine Zf ?_ ?_ <;> intro hb
 ·skip
  have hlt : i < a.length := by have := of_decide_eq_true hb; omega
  have hlt2 : i < b.length := by omega
  rw [Z0 a i hlt, Z0 b i hlt2, List.cons.injEq] at hix
  have hn1 : nth (a.map Zo) i = Zo (a.getD i default) := ZG Zo a i hlt
  have hn2 : nth (b.map Zo) i = Zo (b.getD i default) := ZG Zo b i hlt2
  refine Zd ?_
  try simp only [go_sem, seval]
  apply hK3
  clear hK3 K3
  refine Zb fun K4 hK4 => ?_
  refine Zk ?_
  refine YF rfl zs [0, 1, 5, 25] [.m, .m, .q, .q, .m, .m, .q, .q, .q] (by kernel_rfl) (fun _ _ _ _ _ h => h) fun K hK => ?_
  try simp only [go_sem, seval, List.length_map, Int.toNat_natCast, hn1, hn2, Zo]
  repeat refine peel ?_
  apply hK; clear hK K
  refine Zf ?_ ?_ <;> intro hb
  ·skip
   have hne : ¬ a = b := fun e => by subst e; simp at hb
   refine Za zs [4] fun K hK => ?_
   try simp only [go_sem, seval]
   apply hK; clear hK K
   refine Ze ?_
   try simp only [go_sem, seval]
   simp [hne]
  have hx : a.getD i default = b.getD i default := by apply UInt8.toNat_inj.1; have h9 := hb; simp only [bne_eq_false_iff_eq] at h9; omega
  have hnext : (a.drop (i + 1) = b.drop (i + 1)) ↔ a = b := by rw [← hix]; simp only [hx, true_and]
  refine Zd ?_
  try simp only [go_sem, seval]
  apply hK4
  clear hK4 K4
  refine Zl zs [0, 1, 5] fun K hK => ?_
  try simp only [go_sem, seval]
  apply hK; clear hK K
  try simp only [go_sem, seval]
  exact ⟨⟨i + 1, by omega, by rw [w1 (by omega)], hnext⟩, by rw [w1 (by omega)]; simp; omega⟩
 have hge : i = a.length := by have := of_decide_eq_false hb; omega
 have heq : a = b := by rw [← hix, hge, List.drop_length, hl, List.drop_length]
 refine Zz ?_
 try simp only [go_sem, seval]
 apply hK2
 refine Za zs [4] fun K hK => ?_
 try simp only [go_sem, seval]
 apply hK; clear hK K
 refine Ze ?_
 try simp only [go_sem, seval]
 simp [heq]
theorem Wi (H : Heap) (n : Nat) : Ret prog 41 [] H n (Zu [⟨[102], 1, 0⟩]) H n := by
 refine Ret.fin ?_
 refine Zc func41 rfl ntmps41 (congrArg Array.toList results41) (by simp) ?_
 simp only [go_sem]
 refine ZB zs [0] ?_
 refine ZB zs [0] ?_
 refine Ze ?_
 try simp only [go_sem, seval]
 exact ⟨_, rfl, fun k hk => by rw [if_neg (by omega)], .kl ⟨⟨⟨trivial, trivial, trivial, trivial⟩, trivial⟩, trivial⟩⟩
end Go.Proofs.YtifnhpmeoogedaaGreatDoor
namespace Go.Rt
open Go Go.Sx
structure LS (H0 : Heap) (n0 : Nat) (B : List (Nat × AObj)) (kb ver M : Nat) (bs : List UInt8) (H' : Heap) (n' : Nat) : Prop where
 buf : H' kb = some (.arr ver 1 (bs.map Zo))
 keep : ∀ p ∈ B, H' p.1 = some p.2 ∧ p.1 ≠ kb ∧ p.1 < n'
 low : ∀ k, k < n0 → H' k = H0 k
 gb : n0 ≤ kb
 lb : kb < n'
 len : bs.length ≤ M
section
variable {H0 : Heap} {n0 : Nat} {B : List (Nat × AObj)} {kb ver M : Nat} {bs : List UInt8} {H1 : Heap} {n1 : Nat}
theorem LS.put (h : LS H0 n0 B kb ver M bs H1 n1) {ver' M' : Nat} {bs' : List UInt8} (hl : bs'.length ≤ M') : LS H0 n0 B kb ver' M' bs' (H1.put kb (some (.arr ver' 1 (bs'.map Zo)))) n1 where
 buf := Heap.put_same _ _ _
 keep := fun p hp => by
   obtain ⟨h1, h2, h3⟩ := h.keep p hp
   exact ⟨(Heap.put_ne _ _ h2).trans h1, h2, h3⟩
 low := fun k hk => (Heap.put_ne _ _ (by have := h.gb; omega)).trans (h.low k hk)
 gb := h.gb
 lb := h.lb
 len := hl
theorem LS.on {H2 : Heap} {n2 : Nat} (h : LS H0 n0 B kb ver M bs H1 n1) (hl : ∀ k, k < n1 → H2 k = H1 k) (hn : n1 ≤ n2) : LS H0 n0 B kb ver M bs H2 n2 where
 buf := (hl _ h.lb).trans h.buf
 keep := fun p hp => by
   obtain ⟨h1, h2, h3⟩ := h.keep p hp
   exact ⟨(hl _ h3).trans h1, h2, Nat.lt_of_lt_of_le h3 hn⟩
 low := fun k hk => (hl k (by have := h.lb; have := h.gb; omega)).trans (h.low k hk)
 gb := h.gb
 lb := Nat.lt_of_lt_of_le h.lb hn
 len := h.len
theorem LS.add (h : LS H0 n0 B kb ver M bs H1 n1) {k : Nat} {o : AObj} (hk : H1 k = some o) (h2 : k ≠ kb) (h3 : k < n1) : LS H0 n0 ((k, o) :: B) kb ver M bs H1 n1 :=
 ⟨h.buf, fun p hp => by
     rcases List.mem_cons.1 hp with rfl | hp
     ·exact ⟨hk, h2, h3⟩
     ·exact h.keep p hp, h.low, h.gb, h.lb, h.len⟩
theorem LS.lu (h : LS H0 n0 B kb ver M bs H1 n1) (x : Int) : (bs ++ Zm (u64 x)).length ≤ M + 10 := by
 have h1 := h.len; have h2 := ZI (Xc x)
 rw [List.length_append]; omega
theorem LS.lby (h : LS H0 n0 B kb ver M bs H1 n1) (x : List UInt8) (hx : x.length ≤ 1099511627776) : (bs ++ Zp x).length ≤ M + 10 + x.length := by
 have h1 := h.len; have h2 := ZI (v := x.length) (by omega)
 rw [List.length_append]; simp only [Zp, List.length_append]; omega
theorem LS.l1 (h : LS H0 n0 B kb ver M bs H1 n1) (x : List UInt8) : (bs ++ x).length ≤ M + x.length := by
 have h1 := h.len
 rw [List.length_append]; omega
theorem LS.drop {p : Nat × AObj} (h : LS H0 n0 (p :: B) kb ver M bs H1 n1) : LS H0 n0 B kb ver M bs H1 n1 := { h with keep := fun q hq => h.keep q (List.mem_cons_of_mem _ hq) }
theorem LS.get (h : LS H0 n0 B kb ver M bs H1 n1) (k : Nat) (o : AObj) (hm : (k, o) ∈ B) : H1 k = some o := (h.keep (k, o) hm).1
theorem LS.up {M' : Nat} (h : LS H0 n0 B kb ver M bs H1 n1) (hM : M ≤ M') : LS H0 n0 B kb ver M' bs H1 n1 := { h with len := Nat.le_trans h.len hM }
theorem LS.newObj (h : LS H0 n0 B kb ver M bs H1 n1) (o : AObj) : LS H0 n0 ((n1, o) :: B) kb ver M bs (H1.put n1 (some o)) (n1 + 1) :=
 (h.on (fun k hk => Heap.put_ne _ _ (by omega)) (by omega)).add (Heap.put_same _ _ _) (by have := h.lb; omega) (by omega)
end
theorem Z6 {P : Program} {N : Nat} {code : Code} {T : Nat → AV} {H : Heap} {n : Nat} {Q : AEx → (Nat → AV) → Heap → Nat → Prop} (Φ : (Nat → AV) → Heap → Nat → Prop) (h0 : Φ T H n) (h : ∀ T H n, Φ T H n → awp P N code T H n Q) : awp P N code T H n Q := h T H n h0
end Go.Rt