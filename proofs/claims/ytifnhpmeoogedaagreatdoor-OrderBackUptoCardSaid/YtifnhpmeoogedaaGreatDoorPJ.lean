/- Own layer: the walk through the document's bytes of a command. Of the program; no condition. -/
import Derived.Test.YtifnhpmeoogedaaGreatDoorPI
import Derived.Test.YtifnhpmeoogedaaGreatDoorPH
import Derived.Test.YtifnhpmeoogedaaGreatDoorPG
set_option linter.unusedSimpArgs false
set_option linter.unusedVariables false
namespace Go.Proofs.YtifnhpmeoogedaaGreatDoor
open Go Go.Sx Go.Rt Go.Proofs Tryz
set_option maxRecDepth 100000 in
set_option maxHeartbeats 6400000 in
theorem U4 (c : CmdE) (hc : c.fits) (h1 : 1 ≤ c.kind) (h7 : c.kind ≤ 7) (H : Heap) (n : Nat) : Ret prog 63 [Zh c] H n (bys (cmdB c)) H n := by
 have hsz := Yg c.q
 have haq : (Zq c.q).isAgg = true := rfl
 have hmq : (Zq c.q).memOK = true := rfl
 have huc : u64 (c.conds.length : Int) = c.conds.length := XB _ (by have := hc.conds; omega)
 have huo : u64 (c.ops.length : Int) = c.ops.length := XB _ (by have := hc.ops; omega)
 have huf : u64 (c.q.fams.length : Int) = c.q.fams.length := XB _ (by have := hc.fams; omega)
 have r1 : (0 : Nat) = 0 := rfl
 have r6 := r1
 have rB := r1
 refine Ret.fin ?_
 refine Zc func63 rfl ntmps63 (congrArg Array.toList results63) (by simp) ?_
 simp only [go_sem]
 refine Za zs [1] fun K hK => ?_
 try simp only [go_sem, seval, Zh, hsz, bys]
 apply hK; clear hK K
 refine Za zo [1, 3] fun K hK => ?_
 try simp only [go_sem, seval, Y0]
 repeat (first | refine peel ?_ | refine ⟨by exact ⟨rfl, by simp [AV.sz, AV.memOK]⟩, ?_⟩)
 apply hK; clear hK K
 refine Zb fun K1 hK1 => ?_
 refine Z6 (fun T' H' n' => ∃ ver bs, bs = [ZU c.kind] ∧ T' = tl [(1, .loc n 0 0 0 []), (3, .osl (n + 1) ver 0 bs.length)] ∧ LS H n [(n, .arr 0 17 [Zh c])] (n + 1) ver (1) bs H' n') ⟨_, [ZU c.kind], rfl, rfl, by refine ⟨by simp [Heap.put]; rfl, fun p hp => ?_, fun k hk => ?_, by omega, by omega, by simp⟩; { rw [List.mem_singleton.1 hp]; exact ⟨by simp [Heap.put, Zh, bys], by simp, by simp; try omega⟩ }; { simp only [Heap.put_get]; repeat rw [if_neg (by omega)] }⟩ ?_
 rintro T1 H1 n1 ⟨ver, bs, hbs, rfl, hS⟩
 have r1 := hS.get n (.arr 0 17 [Zh c]) (by simp); have rB := hS.buf
 refine Za zs [1, 3, 16] fun K hK => ?_
 try simp only [go_sem, seval, Zh, r1, bys]
 apply hK; clear hK K
 refine Zf ?_ ?_ <;> intro hb
 ·skip
  have hk3 : c.kind < 3 := of_decide_eq_true hb
  have hfin : bs = cmdB c := by rw [hbs, VN h1 h7]; have : c.kind = 1 ∨ c.kind = 2 := (by omega); rcases this with h | h <;> simp [hdrB, h, ZP, YO, kOps, Yl, Yb]
  refine Za zs [2] fun K hK => ?_
  try simp only [go_sem, seval]
  apply hK; clear hK K
  refine Ze ?_
  try simp only [go_sem, seval]
  refine ⟨_, rfl, hS.low, .osl hS.buf (by omega) (by simp) ?_⟩
  rw [List.drop_zero, List.take_of_length_le (by simp), hfin]
  exact YE _ (YQ _ _)
 have hk3 : ¬ c.kind < 3 := of_decide_eq_false hb
 have hcf : (ZP c.kind || YO c.kind) = true := by simp [ZP, YO]; omega
 refine Zd ?_
 try simp only [go_sem, seval]
 apply hK1
 clear hK1 K1
 refine Za zs [1, 3] fun K hK => ?_
 try simp only [go_sem, seval, Zh, r1, bys]
 refine Zg func88 rfl rfl rfl ((YL hS.buf (c.client) (by have := hS.len; have := hc.row; have := hc.frm; have := hc.to; have := hc.pre; have := hc.whr; have := hc.token; have := hc.conds; have := hc.ops; have := hc.fams; omega))) ?_
 try simp only [go_sem, seval]
 apply hK; clear hK K
 refine Z6 (fun T' H' n' => ∃ ver bs, bs = [ZU c.kind] ++ Zm (u64 c.client) ∧ T' = tl [(1, .loc n 0 0 0 []), (3, .osl (n + 1) ver 0 bs.length)] ∧ LS H n [(n, .arr 0 17 [Zh c])] (n + 1) ver (11) bs H' n') ⟨_, bs ++ Zm (u64 c.client), by rw [hbs], rfl, ((hS.put (hS.lu (c.client))).up (by have := hc.row; have := hc.frm; have := hc.to; have := hc.pre; have := hc.whr; have := hc.token; have := hc.conds; have := hc.ops; have := hc.fams; omega))⟩ ?_
 rintro T1 H1 n1 ⟨ver, bs, hbs, rfl, hS⟩
 have r1 := hS.get n (.arr 0 17 [Zh c]) (by simp); have rB := hS.buf
 refine Za zs [1, 3] fun K hK => ?_
 try simp only [go_sem, seval, Zh, r1, bys]
 refine Zg func88 rfl rfl rfl ((YL hS.buf (c.serial) (by have := hS.len; have := hc.row; have := hc.frm; have := hc.to; have := hc.pre; have := hc.whr; have := hc.token; have := hc.conds; have := hc.ops; have := hc.fams; omega))) ?_
 try simp only [go_sem, seval]
 apply hK; clear hK K
 refine Zb fun K2 hK2 => ?_
 refine Z6 (fun T' H' n' => ∃ ver bs, bs = hdrB c ∧ T' = tl [(1, .loc n 0 0 0 []), (3, .osl (n + 1) ver 0 bs.length)] ∧ LS H n [(n, .arr 0 17 [Zh c])] (n + 1) ver (21) bs H' n') ⟨_, bs ++ Zm (u64 c.serial), by rw [hbs]; simp [hdrB, hcf], rfl, ((hS.put (hS.lu (c.serial))).up (by have := hc.row; have := hc.frm; have := hc.to; have := hc.pre; have := hc.whr; have := hc.token; have := hc.conds; have := hc.ops; have := hc.fams; omega))⟩ ?_
 rintro T1 H1 n1 ⟨ver, bs, hbs, rfl, hS⟩
 have r1 := hS.get n (.arr 0 17 [Zh c]) (by simp); have rB := hS.buf
 refine Za zs [1, 3, 27] fun K hK => ?_
 try simp only [go_sem, seval, Zh, r1, bys]
 apply hK; clear hK K
 refine Zk ?_
 refine Za zs [1, 3, 27, 28] fun K hK => ?_
 try simp only [go_sem, seval]
 apply hK; clear hK K
 refine Zf ?_ ?_ <;> intro hb
 ·skip
  have h4 : c.kind = 4 := by simpa using hb
  refine Za zs [1, 3] fun K hK => ?_
  try simp only [go_sem, seval, Zh, r1, bys]
  refine Zg func90 rfl rfl rfl ((YV hS.buf (c.row) (by have := hc.row; have := hc.frm; have := hc.to; have := hc.pre; have := hc.whr; have := hc.token; have := hc.conds; have := hc.ops; have := hc.fams; omega) (by have := hS.len; have := hc.row; have := hc.frm; have := hc.to; have := hc.pre; have := hc.whr; have := hc.token; have := hc.conds; have := hc.ops; have := hc.fams; omega))) ?_
  try simp only [go_sem, seval]
  apply hK; clear hK K
  refine Z6 (fun T' H' n' => ∃ ver bs, bs = hdrB c ++ Zp c.row ∧ T' = tl [(1, .loc n 0 0 0 []), (3, .osl (n + 1) ver 0 bs.length)] ∧ LS H n [(n, .arr 0 17 [Zh c])] (n + 1) ver (1100000) bs H' n') ⟨_, bs ++ Zp c.row, by rw [hbs], rfl, ((hS.put (hS.lby (c.row) (by have := hc.row; have := hc.frm; have := hc.to; have := hc.pre; have := hc.whr; have := hc.token; have := hc.conds; have := hc.ops; have := hc.fams; omega))).up (by have := hc.row; have := hc.frm; have := hc.to; have := hc.pre; have := hc.whr; have := hc.token; have := hc.conds; have := hc.ops; have := hc.fams; omega))⟩ ?_
  rintro T1 H1 n1 ⟨ver, bs, hbs, rfl, hS⟩
  have r1 := hS.get n (.arr 0 17 [Zh c]) (by simp); have rB := hS.buf
  refine Za zs [1, 3] fun K hK => ?_
  try simp only [go_sem, seval, Zh, r1, List.length_map, bys]
  refine Zg func88 rfl rfl rfl ((YL hS.buf (c.conds.length) (by have := hS.len; have := hc.row; have := hc.frm; have := hc.to; have := hc.pre; have := hc.whr; have := hc.token; have := hc.conds; have := hc.ops; have := hc.fams; omega))) ?_
  try simp only [go_sem, seval]
  apply hK; clear hK K
  refine Zb fun K3 hK3 => ?_
  refine Z6 (fun T' H' n' => ∃ ver bs, bs = hdrB c ++ Zp c.row ++ Zm c.conds.length ∧ T' = tl [(1, .loc n 0 0 0 []), (3, .osl (n + 1) ver 0 bs.length)] ∧ LS H n [(n, .arr 0 17 [Zh c])] (n + 1) ver (1100010) bs H' n') ⟨_, bs ++ Zm (u64 c.conds.length), by rw [hbs, huc], rfl, ((hS.put (hS.lu (c.conds.length))).up (by have := hc.row; have := hc.frm; have := hc.to; have := hc.pre; have := hc.whr; have := hc.token; have := hc.conds; have := hc.ops; have := hc.fams; omega))⟩ ?_
  rintro T1 H1 n1 ⟨ver, bs, hbs, rfl, hS⟩
  have r1 := hS.get n (.arr 0 17 [Zh c]) (by simp); have rB := hS.buf
  refine Za zs [1, 3, 4] fun K hK => ?_
  try simp only [go_sem, seval]
  apply hK; clear hK K
  refine Zk ?_
  refine Zy (fun T' H' n' => ∃ i : Nat, i ≤ c.conds.length ∧ ∃ ver bs, bs = hdrB c ++ Zp c.row ++ Zm c.conds.length ++ (c.conds.take i).flatMap Yx ∧ T' = tl [(1, .loc n 0 0 0 []), (3, .osl (n + 1) ver 0 bs.length), (4, .int .i64 i)] ∧ LS H n [(n, .arr 0 17 [Zh c])] (n + 1) ver (1100100 + 2100000 * i) bs H' n') (fun T' _ _ => c.conds.length - iv (T' 4)) ?_ ?_
  ·skip
   exact ⟨0, by omega, ver, bs, by rw [hbs]; simp, rfl, hS.up (by omega)⟩
  intro T1 H1 n1
  rintro ⟨i, hi, ver, bs, hbs, rfl, hS⟩
  have r1 := hS.get n (.arr 0 17 [Zh c]) (by simp); have rB := hS.buf
  refine Zb fun K4 hK4 => ?_
  refine Za zs [1, 3, 4, 43] fun K hK => ?_
  try simp only [go_sem, seval, Zh, r1, List.length_map, bys]
  apply hK; clear hK K
  refine Zf ?_ ?_ <;> intro hb
  ·skip
   have hlt : i < c.conds.length := by have := of_decide_eq_true hb; omega
   have hfl := Y9 Yx c.conds hlt
   have hmem := Wp c.conds hlt
   have hnth : nth (c.conds.map Zt) i = Zt (c.conds.getD i default) := ZG Zt c.conds i hlt
   generalize c.conds.getD i default = x at *
   have hx := hc.cond x hmem
   have hil := hc.conds
   have hszx : (Zt x).sz = 4 := rfl
   have hagx : (Zt x).isAgg = true := rfl
   have hmox : (Zt x).memOK = true := rfl
   refine Zd ?_
   try simp only [go_sem, seval, Zh, bys]
   apply hK4
   clear hK4 K4
   refine Zb fun K5 hK5 => ?_
   refine Zk ?_
   refine Za zs [1, 3, 4, 5] fun K hK => ?_
   try simp only [go_sem, seval, Zh, r1, List.length_map, bys, Int.toNat_natCast, hnth, hszx, hagx, hmox]
   repeat refine peel ?_
   apply hK; clear hK K
   refine Z6 (fun T' H' n' => ∃ kx ver bs, bs = hdrB c ++ Zp c.row ++ Zm c.conds.length ++ (c.conds.take i).flatMap Yx ∧ T' = tl [(1, .loc n 0 0 0 []), (3, .osl (n + 1) ver 0 bs.length), (4, .int .i64 i), (5, .loc kx 0 0 0 [])] ∧ LS H n [(kx, .arr 0 4 [Zt x]), (n, .arr 0 17 [Zh c])] (n + 1) ver (1100100 + 2100000 * i) bs H' n') ⟨n1, ver, bs, hbs, rfl, hS.newObj _⟩ ?_
   rintro T1 H1 n1 ⟨kx, ver, bs, hbs, rfl, hS⟩
   have r1 := hS.get n (.arr 0 17 [Zh c]) (by simp); have rB := hS.buf
   have r6 := hS.get kx (.arr 0 4 [Zt x]) (by simp)
   refine Za zs [1, 3, 4, 5] fun K hK => ?_
   try simp only [go_sem, seval, Zh, r6, rB, List.length_map, bys, Y0, Zt]
   repeat (first | refine peel ?_ | (refine And.intro ?_ ?_; · first | exact ⟨rfl, by simp [AV.sz, AV.memOK]⟩ | exact ⟨by simp, .inr trivial, by have := hS.len; omega, by have := hS.len; omega⟩))
   apply hK; clear hK K
   refine Z6 (fun T' H' n' => ∃ ver bs, bs = hdrB c ++ Zp c.row ++ Zm c.conds.length ++ (c.conds.take i).flatMap Yx ++ [ZU x.kind, ZU x.fam] ∧ T' = tl [(1, .loc n 0 0 0 []), (3, .osl (n + 1) ver 0 bs.length), (4, .int .i64 i), (5, .loc kx 0 0 0 [])] ∧ LS H n [(kx, .arr 0 4 [Zt x]), (n, .arr 0 17 [Zh c])] (n + 1) ver (1100100 + 2100000 * i + 2) bs H' n') ⟨_, bs ++ [ZU x.kind, ZU x.fam], by rw [hbs], by rw [List.length_append]; rfl, (by have h9 := hS.put (ver' := ver + 1) (hS.l1 [ZU x.kind, ZU x.fam]); rw [List.map_append] at h9; rw [List.take_of_length_le (by simp)]; exact h9.up (by simp))⟩ ?_
   rintro T1 H1 n1 ⟨ver, bs, hbs, rfl, hS⟩
   have r1 := hS.get n (.arr 0 17 [Zh c]) (by simp); have rB := hS.buf
   have r6 := hS.get kx (.arr 0 4 [Zt x]) (by simp)
   refine Za zs [1, 3, 4, 5] fun K hK => ?_
   try simp only [go_sem, seval, Zh, r6, bys, Zt]
   refine Zg func90 rfl rfl rfl ((YV hS.buf (x.qual) (by omega) (by have := hS.len; have := hc.row; have := hc.frm; have := hc.to; have := hc.pre; have := hc.whr; have := hc.token; have := hc.conds; have := hc.ops; have := hc.fams; omega))) ?_
   try simp only [go_sem, seval]
   apply hK; clear hK K
   refine Z6 (fun T' H' n' => ∃ ver bs, bs = hdrB c ++ Zp c.row ++ Zm c.conds.length ++ (c.conds.take i).flatMap Yx ++ [ZU x.kind, ZU x.fam] ++ Zp x.qual ∧ T' = tl [(1, .loc n 0 0 0 []), (3, .osl (n + 1) ver 0 bs.length), (4, .int .i64 i), (5, .loc kx 0 0 0 [])] ∧ LS H n [(kx, .arr 0 4 [Zt x]), (n, .arr 0 17 [Zh c])] (n + 1) ver (1100100 + 2100000 * i + 1048602) bs H' n') ⟨_, bs ++ Zp x.qual, by rw [hbs], rfl, ((hS.put (hS.lby (x.qual) (by omega))).up (by omega))⟩ ?_
   rintro T1 H1 n1 ⟨ver, bs, hbs, rfl, hS⟩
   have r1 := hS.get n (.arr 0 17 [Zh c]) (by simp); have rB := hS.buf
   have r6 := hS.get kx (.arr 0 4 [Zt x]) (by simp)
   refine Zl zs [1, 3, 4] fun K hK => ?_
   try simp only [go_sem, seval, Zh, r6, bys, Zt]
   refine Zg func90 rfl rfl rfl ((YV hS.buf (x.value) (by omega) (by have := hS.len; have := hc.row; have := hc.frm; have := hc.to; have := hc.pre; have := hc.whr; have := hc.token; have := hc.conds; have := hc.ops; have := hc.fams; omega))) ?_
   try simp only [go_sem, seval]
   apply hK; clear hK K
   try simp only [go_sem, seval, Zh, bys]
   apply hK5
   clear hK5 K5
   refine Z6 (fun T' H' n' => ∃ ver bs, bs = hdrB c ++ Zp c.row ++ Zm c.conds.length ++ (c.conds.take i).flatMap Yx ++ [ZU x.kind, ZU x.fam] ++ Zp x.qual ++ Zp x.value ∧ T' = tl [(1, .loc n 0 0 0 []), (3, .osl (n + 1) ver 0 bs.length), (4, .int .i64 i)] ∧ LS H n [(kx, .arr 0 4 [Zt x]), (n, .arr 0 17 [Zh c])] (n + 1) ver (1100100 + 2100000 * i + 2097202) bs H' n') ⟨_, bs ++ Zp x.value, by rw [hbs], rfl, ((hS.put (hS.lby (x.value) (by omega))).up (by omega))⟩ ?_
   rintro T1 H1 n1 ⟨ver, bs, hbs, rfl, hS⟩
   have r1 := hS.get n (.arr 0 17 [Zh c]) (by simp); have rB := hS.buf
   refine Zl zs [1, 3, 4] fun K hK => ?_
   try simp only [go_sem, seval, Zh, bys]
   apply hK; clear hK K
   try simp only [go_sem, seval, Zh, bys]
   refine ⟨⟨i + 1, by omega, ver, bs, by rw [hbs, hfl]; simp [Yx], by rw [w1 (by omega)], hS.drop.up (by omega)⟩, by rw [w1 (by omega)]; simp; omega⟩
  have hge : i = c.conds.length := by have := of_decide_eq_false hb; omega
  rw [Xn Yx c.conds (by omega)] at hbs
  have hil := hc.conds
  have r1 := hS.get n (.arr 0 17 [Zh c]) (by simp); have rB := hS.buf
  refine Zz ?_
  try simp only [go_sem, seval, Zh, bys]
  apply hK3
  refine Za zs [1, 3] fun K hK => ?_
  try simp only [go_sem, seval, Zh, r1, List.length_map, bys]
  refine Zg func88 rfl rfl rfl ((YL hS.buf (c.ops.length) (by have := hS.len; have := hc.row; have := hc.frm; have := hc.to; have := hc.pre; have := hc.whr; have := hc.token; have := hc.conds; have := hc.ops; have := hc.fams; omega))) ?_
  try simp only [go_sem, seval]
  apply hK; clear hK K
  refine Z6 (fun T' H' n' => ∃ ver bs, bs = hdrB c ++ Zp c.row ++ Zm c.conds.length ++ c.conds.flatMap Yx ++ Zm c.ops.length ∧ T' = tl [(1, .loc n 0 0 0 []), (3, .osl (n + 1) ver 0 bs.length)] ∧ LS H n [(n, .arr 0 17 [Zh c])] (n + 1) ver (2300000000000) bs H' n') ⟨_, bs ++ Zm (u64 c.ops.length), by rw [hbs, huo], rfl, ((hS.put (hS.lu (c.ops.length))).up (by omega))⟩ ?_
  rintro T1 H1 n1 ⟨ver, bs, hbs, rfl, hS⟩
  have r1 := hS.get n (.arr 0 17 [Zh c]) (by simp); have rB := hS.buf
  refine Za zs [1, 3, 6] fun K hK => ?_
  try simp only [go_sem, seval]
  apply hK; clear hK K
  refine Zk ?_
  refine Zy (fun T' H' n' => ∃ i : Nat, i ≤ c.ops.length ∧ ∃ ver bs, bs = hdrB c ++ Zp c.row ++ Zm c.conds.length ++ c.conds.flatMap Yx ++ Zm c.ops.length ++ (c.ops.take i).flatMap opB ∧ T' = tl [(1, .loc n 0 0 0 []), (3, .osl (n + 1) ver 0 bs.length), (6, .int .i64 i)] ∧ LS H n [(n, .arr 0 17 [Zh c])] (n + 1) ver (2300000000100 + 2100000 * i) bs H' n') (fun T' _ _ => c.ops.length - iv (T' 6)) ?_ ?_
  ·skip
   exact ⟨0, by omega, ver, bs, by rw [hbs]; simp, rfl, hS.up (by omega)⟩
  intro T1 H1 n1
  rintro ⟨i, hi, ver, bs, hbs, rfl, hS⟩
  have r1 := hS.get n (.arr 0 17 [Zh c]) (by simp); have rB := hS.buf
  refine Zb fun K6 hK6 => ?_
  refine Za zs [1, 3, 6, 77] fun K hK => ?_
  try simp only [go_sem, seval, Zh, r1, List.length_map, bys]
  apply hK; clear hK K
  refine Zf ?_ ?_ <;> intro hb
  ·skip
   have hlt : i < c.ops.length := by have := of_decide_eq_true hb; omega
   have hfl := Y9 opB c.ops hlt
   have hmem := Wp c.ops hlt
   have hnth : nth (c.ops.map opAV) i = opAV (c.ops.getD i default) := ZG opAV c.ops i hlt
   generalize c.ops.getD i default = x at *
   have hx := hc.op x hmem
   have hil := hc.ops
   have hszx : (opAV x).sz = 6 := rfl
   have hagx : (opAV x).isAgg = true := rfl
   have hmox : (opAV x).memOK = true := rfl
   refine Zd ?_
   try simp only [go_sem, seval, Zh, bys]
   apply hK6
   clear hK6 K6
   refine Zb fun K7 hK7 => ?_
   refine Zk ?_
   refine Za zs [1, 3, 6, 7] fun K hK => ?_
   try simp only [go_sem, seval, Zh, r1, List.length_map, bys, Int.toNat_natCast, hnth, hszx, hagx, hmox]
   repeat refine peel ?_
   apply hK; clear hK K
   refine Z6 (fun T' H' n' => ∃ kx ver bs, bs = hdrB c ++ Zp c.row ++ Zm c.conds.length ++ c.conds.flatMap Yx ++ Zm c.ops.length ++ (c.ops.take i).flatMap opB ∧ T' = tl [(1, .loc n 0 0 0 []), (3, .osl (n + 1) ver 0 bs.length), (6, .int .i64 i), (7, .loc kx 0 0 0 [])] ∧ LS H n [(kx, .arr 0 6 [opAV x]), (n, .arr 0 17 [Zh c])] (n + 1) ver (2300000000100 + 2100000 * i) bs H' n') ⟨n1, ver, bs, hbs, rfl, hS.newObj _⟩ ?_
   rintro T1 H1 n1 ⟨kx, ver, bs, hbs, rfl, hS⟩
   have r1 := hS.get n (.arr 0 17 [Zh c]) (by simp); have rB := hS.buf
   have r6 := hS.get kx (.arr 0 6 [opAV x]) (by simp)
   refine Za zs [1, 3, 6, 7] fun K hK => ?_
   try simp only [go_sem, seval, Zh, r6, rB, List.length_map, bys, Y0, opAV]
   repeat (first | refine peel ?_ | (refine And.intro ?_ ?_; · first | exact ⟨rfl, by simp [AV.sz, AV.memOK]⟩ | exact ⟨by simp, .inr trivial, by have := hS.len; omega, by have := hS.len; omega⟩))
   apply hK; clear hK K
   refine Z6 (fun T' H' n' => ∃ ver bs, bs = hdrB c ++ Zp c.row ++ Zm c.conds.length ++ c.conds.flatMap Yx ++ Zm c.ops.length ++ (c.ops.take i).flatMap opB ++ [ZU x.kind, ZU x.fam] ∧ T' = tl [(1, .loc n 0 0 0 []), (3, .osl (n + 1) ver 0 bs.length), (6, .int .i64 i), (7, .loc kx 0 0 0 [])] ∧ LS H n [(kx, .arr 0 6 [opAV x]), (n, .arr 0 17 [Zh c])] (n + 1) ver (2300000000100 + 2100000 * i + 2) bs H' n') ⟨_, bs ++ [ZU x.kind, ZU x.fam], by rw [hbs], by rw [List.length_append]; rfl, (by have h9 := hS.put (ver' := ver + 1) (hS.l1 [ZU x.kind, ZU x.fam]); rw [List.map_append] at h9; rw [List.take_of_length_le (by simp)]; exact h9.up (by simp))⟩ ?_
   rintro T1 H1 n1 ⟨ver, bs, hbs, rfl, hS⟩
   have r1 := hS.get n (.arr 0 17 [Zh c]) (by simp); have rB := hS.buf
   have r6 := hS.get kx (.arr 0 6 [opAV x]) (by simp)
   refine Za zs [1, 3, 6, 7] fun K hK => ?_
   try simp only [go_sem, seval, Zh, r6, bys, opAV]
   refine Zg func90 rfl rfl rfl ((YV hS.buf (x.qual) (by omega) (by have := hS.len; have := hc.row; have := hc.frm; have := hc.to; have := hc.pre; have := hc.whr; have := hc.token; have := hc.conds; have := hc.ops; have := hc.fams; omega))) ?_
   try simp only [go_sem, seval]
   apply hK; clear hK K
   refine Z6 (fun T' H' n' => ∃ ver bs, bs = hdrB c ++ Zp c.row ++ Zm c.conds.length ++ c.conds.flatMap Yx ++ Zm c.ops.length ++ (c.ops.take i).flatMap opB ++ [ZU x.kind, ZU x.fam] ++ Zp x.qual ∧ T' = tl [(1, .loc n 0 0 0 []), (3, .osl (n + 1) ver 0 bs.length), (6, .int .i64 i), (7, .loc kx 0 0 0 [])] ∧ LS H n [(kx, .arr 0 6 [opAV x]), (n, .arr 0 17 [Zh c])] (n + 1) ver (2300000000100 + 2100000 * i + 1048602) bs H' n') ⟨_, bs ++ Zp x.qual, by rw [hbs], rfl, ((hS.put (hS.lby (x.qual) (by omega))).up (by omega))⟩ ?_
   rintro T1 H1 n1 ⟨ver, bs, hbs, rfl, hS⟩
   have r1 := hS.get n (.arr 0 17 [Zh c]) (by simp); have rB := hS.buf
   have r6 := hS.get kx (.arr 0 6 [opAV x]) (by simp)
   refine Za zs [1, 3, 6, 7] fun K hK => ?_
   try simp only [go_sem, seval, Zh, r6, bys, opAV]
   refine Zg func88 rfl rfl rfl ((YL hS.buf (x.ts) (by have := hS.len; have := hc.row; have := hc.frm; have := hc.to; have := hc.pre; have := hc.whr; have := hc.token; have := hc.conds; have := hc.ops; have := hc.fams; omega))) ?_
   try simp only [go_sem, seval]
   apply hK; clear hK K
   refine Z6 (fun T' H' n' => ∃ ver bs, bs = hdrB c ++ Zp c.row ++ Zm c.conds.length ++ c.conds.flatMap Yx ++ Zm c.ops.length ++ (c.ops.take i).flatMap opB ++ [ZU x.kind, ZU x.fam] ++ Zp x.qual ++ Zm (u64 x.ts) ∧ T' = tl [(1, .loc n 0 0 0 []), (3, .osl (n + 1) ver 0 bs.length), (6, .int .i64 i), (7, .loc kx 0 0 0 [])] ∧ LS H n [(kx, .arr 0 6 [opAV x]), (n, .arr 0 17 [Zh c])] (n + 1) ver (2300000000100 + 2100000 * i + 1048612) bs H' n') ⟨_, bs ++ Zm (u64 x.ts), by rw [hbs], rfl, ((hS.put (hS.lu (x.ts))).up (by omega))⟩ ?_
   rintro T1 H1 n1 ⟨ver, bs, hbs, rfl, hS⟩
   have r1 := hS.get n (.arr 0 17 [Zh c]) (by simp); have rB := hS.buf
   have r6 := hS.get kx (.arr 0 6 [opAV x]) (by simp)
   refine Za zs [1, 3, 6, 7] fun K hK => ?_
   try simp only [go_sem, seval, Zh, r6, bys, opAV]
   refine Zg func90 rfl rfl rfl ((YV hS.buf (x.value) (by omega) (by have := hS.len; have := hc.row; have := hc.frm; have := hc.to; have := hc.pre; have := hc.whr; have := hc.token; have := hc.conds; have := hc.ops; have := hc.fams; omega))) ?_
   try simp only [go_sem, seval]
   apply hK; clear hK K
   refine Z6 (fun T' H' n' => ∃ ver bs, bs = hdrB c ++ Zp c.row ++ Zm c.conds.length ++ c.conds.flatMap Yx ++ Zm c.ops.length ++ (c.ops.take i).flatMap opB ++ [ZU x.kind, ZU x.fam] ++ Zp x.qual ++ Zm (u64 x.ts) ++ Zp x.value ∧ T' = tl [(1, .loc n 0 0 0 []), (3, .osl (n + 1) ver 0 bs.length), (6, .int .i64 i), (7, .loc kx 0 0 0 [])] ∧ LS H n [(kx, .arr 0 6 [opAV x]), (n, .arr 0 17 [Zh c])] (n + 1) ver (2300000000100 + 2100000 * i + 2097212) bs H' n') ⟨_, bs ++ Zp x.value, by rw [hbs], rfl, ((hS.put (hS.lby (x.value) (by omega))).up (by omega))⟩ ?_
   rintro T1 H1 n1 ⟨ver, bs, hbs, rfl, hS⟩
   have r1 := hS.get n (.arr 0 17 [Zh c]) (by simp); have rB := hS.buf
   have r6 := hS.get kx (.arr 0 6 [opAV x]) (by simp)
   refine Zl zs [1, 3, 6] fun K hK => ?_
   try simp only [go_sem, seval, Zh, r6, bys, opAV]
   refine Zg func126 rfl rfl rfl ((c_ref14_delta x.delta _ _)) ?_
   try simp only [go_sem, seval, rB, List.length_map, bys]
   repeat (first | refine peel ?_ | refine ⟨by exact ⟨by simp, .inr trivial, by rw [WH]; have := hS.len; omega, by rw [WH]; have := hS.len; omega⟩, ?_⟩)
   apply hK; clear hK K
   try simp only [go_sem, seval, Zh, bys]
   apply hK7
   clear hK7 K7
   refine Z6 (fun T' H' n' => ∃ ver bs, bs = hdrB c ++ Zp c.row ++ Zm c.conds.length ++ c.conds.flatMap Yx ++ Zm c.ops.length ++ (c.ops.take i).flatMap opB ++ [ZU x.kind, ZU x.fam] ++ Zp x.qual ++ Zm (u64 x.ts) ++ Zp x.value ++ XJ x.delta ∧ T' = tl [(1, .loc n 0 0 0 []), (3, .osl (n + 1) ver 0 bs.length), (6, .int .i64 i)] ∧ LS H n [(kx, .arr 0 6 [opAV x]), (n, .arr 0 17 [Zh c])] (n + 1) ver (2300000000100 + 2100000 * i + 2097220) bs H' n') ⟨_, bs ++ XJ x.delta, by rw [hbs], by rw [List.length_append], (by have h9 := hS.put (ver' := ver + 1) (hS.l1 (XJ x.delta)); rw [List.map_append] at h9; rw [List.take_of_length_le (by simp)]; exact h9.up (by rw [WH]; omega))⟩ ?_
   rintro T1 H1 n1 ⟨ver, bs, hbs, rfl, hS⟩
   have r1 := hS.get n (.arr 0 17 [Zh c]) (by simp); have rB := hS.buf
   refine Zl zs [1, 3, 6] fun K hK => ?_
   try simp only [go_sem, seval, Zh, bys]
   apply hK; clear hK K
   try simp only [go_sem, seval, Zh, bys]
   refine ⟨⟨i + 1, by omega, ver, bs, by rw [hbs, hfl]; simp [opB], by rw [w1 (by omega)], hS.drop.up (by omega)⟩, by rw [w1 (by omega)]; simp; omega⟩
  have hge : i = c.ops.length := by have := of_decide_eq_false hb; omega
  rw [Xn opB c.ops (by omega)] at hbs
  have hil := hc.ops
  have r1 := hS.get n (.arr 0 17 [Zh c]) (by simp); have rB := hS.buf
  have hfin : bs = cmdB c := by rw [hbs, VN h1 h7]; simp [h4, kOps, Yl, Yb, mutB]
  refine Zz ?_
  try simp only [go_sem, seval, Zh, bys]
  apply hK2
  refine Y2 [3] ?_
  simp only [go_sem, seval]
  refine Z6 (fun T' H' n' => ∃ ver bs, bs = cmdB c ∧ T' = tl [(3, .osl (n + 1) ver 0 bs.length)] ∧ LS H n [(n, .arr 0 17 [Zh c])] (n + 1) ver (7000200000000) bs H' n') ⟨_, bs, hfin, rfl, hS.up (by have := hc.row; have := hc.frm; have := hc.to; have := hc.pre; have := hc.whr; have := hc.token; have := hc.conds; have := hc.ops; have := hc.fams; omega)⟩ ?_
  rintro T1 H1 n1 ⟨ver, bs, hfin, rfl, hS⟩
  refine Za zs [2] fun K hK => ?_
  try simp only [go_sem, seval]
  apply hK; clear hK K
  refine Ze ?_
  try simp only [go_sem, seval]
  refine ⟨_, rfl, hS.low, .osl hS.buf (by omega) (by simp) ?_⟩
  rw [List.drop_zero, List.take_of_length_le (by simp), hfin]
  exact YE _ (YQ _ _)
 have h4 : ¬ c.kind = 4 := by simpa using hb
 refine YB [1, 3, 27, 111] (fun T' H' n' => ∃ ver bs, bs = hdrB c ∧ T' = tl [(1, .loc n 0 0 0 []), (3, .osl (n + 1) ver 0 bs.length), (27, .int .i64 c.kind), (111, .bool (c.kind == 5 || c.kind == 6))] ∧ LS H n [(n, .arr 0 17 [Zh c])] (n + 1) ver (21) bs H' n') ?_ ?_
 ·skip
  refine Za zs [1, 3, 27, 111] fun K hK => ?_
  try simp only [go_sem, seval, Zh, bys]
  apply hK; clear hK K
  refine Zf ?_ ?_ <;> intro hb
  ·skip
   try have hfin : bs ++ Zm (u64 c.n) = cmdB c := by rw [hbs, VN h1 h7]; have h56 : c.kind = 5 ∨ c.kind = 6 := (by simpa using hb); rcases h56 with h | h <;> simp [h, kOps, Yl, Yb]
   refine Zd ?_
   try simp only [go_sem, seval, Zh, bys]
   exact ⟨ver, bs, hbs, by simp [hb], hS⟩
  refine Zl zs [1, 3, 27, 111] fun K hK => ?_
  try simp only [go_sem, seval, Zh, bys]
  apply hK; clear hK K
  try simp only [go_sem, seval, Zh, bys]
  exact ⟨ver, bs, hbs, by simp [hb], hS⟩
 rintro T1 H1 n1 ⟨ver, bs, hbs, rfl, hS⟩
 have r1 := hS.get n (.arr 0 17 [Zh c]) (by simp); have rB := hS.buf
 refine Zf ?_ ?_ <;> intro hb
 ·skip
  try have hfin : bs ++ Zm (u64 c.n) = cmdB c := by rw [hbs, VN h1 h7]; have h56 : c.kind = 5 ∨ c.kind = 6 := (by simpa using hb); rcases h56 with h | h <;> simp [h, kOps, Yl, Yb]
  refine Zl zs [3] fun K hK => ?_
  try simp only [go_sem, seval, Zh, r1, bys]
  refine Zg func88 rfl rfl rfl ((YL hS.buf (c.n) (by have := hS.len; have := hc.row; have := hc.frm; have := hc.to; have := hc.pre; have := hc.whr; have := hc.token; have := hc.conds; have := hc.ops; have := hc.fams; omega))) ?_
  try simp only [go_sem, seval]
  apply hK; clear hK K
  try simp only [go_sem, seval]
  apply hK2
  clear hK2 K2
  refine Y2 [3] ?_
  simp only [go_sem, seval]
  refine Z6 (fun T' H' n' => ∃ ver bs, bs = cmdB c ∧ T' = tl [(3, .osl (n + 1) ver 0 bs.length)] ∧ LS H n [(n, .arr 0 17 [Zh c])] (n + 1) ver (7000200000000) bs H' n') ⟨_, bs ++ Zm (u64 c.n), hfin, rfl, ((hS.put (hS.lu (c.n))).up (by have := hc.row; have := hc.frm; have := hc.to; have := hc.pre; have := hc.whr; have := hc.token; have := hc.conds; have := hc.ops; have := hc.fams; omega))⟩ ?_
  rintro T1 H1 n1 ⟨ver, bs, hfin, rfl, hS⟩
  refine Za zs [2] fun K hK => ?_
  try simp only [go_sem, seval]
  apply hK; clear hK K
  refine Ze ?_
  try simp only [go_sem, seval]
  refine ⟨_, rfl, hS.low, .osl hS.buf (by omega) (by simp) ?_⟩
  rw [List.drop_zero, List.take_of_length_le (by simp), hfin]
  exact YE _ (YQ _ _)
 refine Za zs [1, 3, 118] fun K hK => ?_
 try simp only [go_sem, seval]
 apply hK; clear hK K
 refine Zf ?_ ?_ <;> intro hb
 ·skip
  have hk7 : c.kind = 7 := by simpa using hb
  refine Za zs [3, 8] fun K hK => ?_
  try simp only [go_sem, seval, Zh, hsz, haq, hmq, r1, bys]
  apply hK; clear hK K
  refine Z6 (fun T' H' n' => ∃ kq ver bs, bs = hdrB c ∧ T' = tl [(3, .osl (n + 1) ver 0 bs.length), (8, .loc kq 0 0 0 [])] ∧ LS H n [(kq, .arr 0 10 [Zq c.q]), (n, .arr 0 17 [Zh c])] (n + 1) ver (21) bs H' n') ⟨n1, ver, bs, hbs, rfl, hS.newObj _⟩ ?_
  rintro T1 H1 n1 ⟨kq, ver, bs, hbs, rfl, hS⟩
  have r1 := hS.get n (.arr 0 17 [Zh c]) (by simp); have rB := hS.buf
  have r6 := hS.get kq (.arr 0 10 [Zq c.q]) (by simp)
  refine Za zs [3, 8] fun K hK => ?_
  try simp only [go_sem, seval, r6, bys, Zq, Zr]
  refine Zg func90 rfl rfl rfl ((YV hS.buf (c.q.frm) (by have := hc.row; have := hc.frm; have := hc.to; have := hc.pre; have := hc.whr; have := hc.token; have := hc.conds; have := hc.ops; have := hc.fams; omega) (by have := hS.len; have := hc.row; have := hc.frm; have := hc.to; have := hc.pre; have := hc.whr; have := hc.token; have := hc.conds; have := hc.ops; have := hc.fams; omega))) ?_
  try simp only [go_sem, seval]
  apply hK; clear hK K
  refine Z6 (fun T' H' n' => ∃ ver bs, bs = hdrB c ++ Zp c.q.frm ∧ T' = tl [(3, .osl (n + 1) ver 0 bs.length), (8, .loc kq 0 0 0 [])] ∧ LS H n [(kq, .arr 0 10 [Zq c.q]), (n, .arr 0 17 [Zh c])] (n + 1) ver (2000000) bs H' n') ⟨_, bs ++ Zp c.q.frm, by rw [hbs], rfl, ((hS.put (hS.lby (c.q.frm) (by have := hc.row; have := hc.frm; have := hc.to; have := hc.pre; have := hc.whr; have := hc.token; have := hc.conds; have := hc.ops; have := hc.fams; omega))).up (by have := hc.row; have := hc.frm; have := hc.to; have := hc.pre; have := hc.whr; have := hc.token; have := hc.conds; have := hc.ops; have := hc.fams; omega))⟩ ?_
  rintro T1 H1 n1 ⟨ver, bs, hbs, rfl, hS⟩
  have r1 := hS.get n (.arr 0 17 [Zh c]) (by simp); have rB := hS.buf
  have r6 := hS.get kq (.arr 0 10 [Zq c.q]) (by simp)
  refine Za zs [3, 8] fun K hK => ?_
  try simp only [go_sem, seval, r6, bys, Zq, Zr]
  refine Zg func90 rfl rfl rfl ((YV hS.buf (c.q.to) (by have := hc.row; have := hc.frm; have := hc.to; have := hc.pre; have := hc.whr; have := hc.token; have := hc.conds; have := hc.ops; have := hc.fams; omega) (by have := hS.len; have := hc.row; have := hc.frm; have := hc.to; have := hc.pre; have := hc.whr; have := hc.token; have := hc.conds; have := hc.ops; have := hc.fams; omega))) ?_
  try simp only [go_sem, seval]
  apply hK; clear hK K
  refine Z6 (fun T' H' n' => ∃ ver bs, bs = hdrB c ++ Zp c.q.frm ++ Zp c.q.to ∧ T' = tl [(3, .osl (n + 1) ver 0 bs.length), (8, .loc kq 0 0 0 [])] ∧ LS H n [(kq, .arr 0 10 [Zq c.q]), (n, .arr 0 17 [Zh c])] (n + 1) ver (4000000) bs H' n') ⟨_, bs ++ Zp c.q.to, by rw [hbs], rfl, ((hS.put (hS.lby (c.q.to) (by have := hc.row; have := hc.frm; have := hc.to; have := hc.pre; have := hc.whr; have := hc.token; have := hc.conds; have := hc.ops; have := hc.fams; omega))).up (by have := hc.row; have := hc.frm; have := hc.to; have := hc.pre; have := hc.whr; have := hc.token; have := hc.conds; have := hc.ops; have := hc.fams; omega))⟩ ?_
  rintro T1 H1 n1 ⟨ver, bs, hbs, rfl, hS⟩
  have r1 := hS.get n (.arr 0 17 [Zh c]) (by simp); have rB := hS.buf
  have r6 := hS.get kq (.arr 0 10 [Zq c.q]) (by simp)
  refine Za zs [3, 8] fun K hK => ?_
  try simp only [go_sem, seval, r6, List.length_map, bys, Zq, Zr]
  refine Zg func88 rfl rfl rfl ((YL hS.buf (c.q.fams.length) (by have := hS.len; have := hc.row; have := hc.frm; have := hc.to; have := hc.pre; have := hc.whr; have := hc.token; have := hc.conds; have := hc.ops; have := hc.fams; omega))) ?_
  try simp only [go_sem, seval]
  apply hK; clear hK K
  refine Zb fun K8 hK8 => ?_
  refine Z6 (fun T' H' n' => ∃ ver bs, bs = hdrB c ++ Zp c.q.frm ++ Zp c.q.to ++ Zm c.q.fams.length ∧ T' = tl [(3, .osl (n + 1) ver 0 bs.length), (8, .loc kq 0 0 0 [])] ∧ LS H n [(kq, .arr 0 10 [Zq c.q]), (n, .arr 0 17 [Zh c])] (n + 1) ver (4000010) bs H' n') ⟨_, bs ++ Zm (u64 (c.q.fams.length)), by rw [hbs, huf], rfl, ((hS.put (hS.lu (c.q.fams.length))).up (by have := hc.row; have := hc.frm; have := hc.to; have := hc.pre; have := hc.whr; have := hc.token; have := hc.conds; have := hc.ops; have := hc.fams; omega))⟩ ?_
  rintro T1 H1 n1 ⟨ver, bs, hbs, rfl, hS⟩
  have r1 := hS.get n (.arr 0 17 [Zh c]) (by simp); have rB := hS.buf
  have r6 := hS.get kq (.arr 0 10 [Zq c.q]) (by simp)
  refine Za zs [3, 8, 9] fun K hK => ?_
  try simp only [go_sem, seval]
  apply hK; clear hK K
  refine Zk ?_
  refine Zy (fun T' H' n' => ∃ i : Nat, i ≤ c.q.fams.length ∧ ∃ ver bs, bs = hdrB c ++ Zp c.q.frm ++ Zp c.q.to ++ Zm c.q.fams.length ++ (c.q.fams.take i).flatMap (fun f => Zm (u64 f)) ∧ T' = tl [(3, .osl (n + 1) ver 0 bs.length), (8, .loc kq 0 0 0 []), (9, .int .i64 i)] ∧ LS H n [(kq, .arr 0 10 [Zq c.q]), (n, .arr 0 17 [Zh c])] (n + 1) ver (4000010 + 10 * i) bs H' n') (fun T' _ _ => c.q.fams.length - iv (T' 9)) ?_ ?_
  ·skip
   exact ⟨0, by omega, ver, bs, by rw [hbs]; simp, rfl, hS.up (by omega)⟩
  intro T1 H1 n1
  rintro ⟨i, hi, ver, bs, hbs, rfl, hS⟩
  have r1 := hS.get n (.arr 0 17 [Zh c]) (by simp); have rB := hS.buf
  have r6 := hS.get kq (.arr 0 10 [Zq c.q]) (by simp)
  refine Zb fun K9 hK9 => ?_
  refine Za zs [3, 8, 9, 139] fun K hK => ?_
  try simp only [go_sem, seval, Zh, r6, List.length_map, bys, Zq, Zr]
  apply hK; clear hK K
  refine Zf ?_ ?_ <;> intro hb
  ·skip
   have hlt : i < c.q.fams.length := by have := of_decide_eq_true hb; omega
   have hil := hc.fams
   have hfl := Y9 (fun f => Zm (u64 f)) c.q.fams hlt
   have hnth : nth (c.q.fams.map fun n => AV.int .i64 n) i = .int .i64 (c.q.fams.getD i default) := ZG (fun n => AV.int .i64 n) c.q.fams i hlt
   refine Zd ?_
   try simp only [go_sem, seval, Zh, bys]
   apply hK9
   clear hK9 K9
   refine Zb fun K10 hK10 => ?_
   refine Zk ?_
   refine Zl zs [3, 8, 9] fun K hK => ?_
   try simp only [go_sem, seval, Zh, r6, List.length_map, bys, Zq, Zr, Int.toNat_natCast, hnth]
   repeat refine peel ?_
   refine Zg func88 rfl rfl rfl ((YL hS.buf (c.q.fams.getD i default) (by have := hS.len; have := hc.row; have := hc.frm; have := hc.to; have := hc.pre; have := hc.whr; have := hc.token; have := hc.conds; have := hc.ops; have := hc.fams; omega))) ?_
   try simp only [go_sem, seval]
   apply hK; clear hK K
   try simp only [go_sem, seval, Zh, bys]
   apply hK10
   clear hK10 K10
   refine Zl zs [3, 8, 9] fun K hK => ?_
   try simp only [go_sem, seval, Zh, bys]
   apply hK; clear hK K
   try simp only [go_sem, seval, Zh, bys]
   refine ⟨⟨i + 1, by omega, _, bs ++ Zm (u64 (c.q.fams.getD i default)), by rw [hbs, hfl]; simp, by rw [w1 (by omega)], ((hS.put (hS.lu (c.q.fams.getD i default))).up (by omega))⟩, by rw [w1 (by omega)]; simp; omega⟩
  have hge : i = c.q.fams.length := by have := of_decide_eq_false hb; omega
  have hil := hc.fams
  rw [Xn (fun f => Zm (u64 f)) c.q.fams (by omega)] at hbs
  refine Zz ?_
  try simp only [go_sem, seval, Zh, bys]
  apply hK8
  refine Za zs [3, 8] fun K hK => ?_
  try simp only [go_sem, seval, r6, bys, Zq, Zr]
  refine Zg func90 rfl rfl rfl ((YV hS.buf (c.q.pre) (by have := hc.row; have := hc.frm; have := hc.to; have := hc.pre; have := hc.whr; have := hc.token; have := hc.conds; have := hc.ops; have := hc.fams; omega) (by have := hS.len; have := hc.row; have := hc.frm; have := hc.to; have := hc.pre; have := hc.whr; have := hc.token; have := hc.conds; have := hc.ops; have := hc.fams; omega))) ?_
  try simp only [go_sem, seval]
  apply hK; clear hK K
  refine Z6 (fun T' H' n' => ∃ ver bs, bs = hdrB c ++ Zp c.q.frm ++ Zp c.q.to ++ Zm c.q.fams.length ++ c.q.fams.flatMap (fun f => Zm (u64 f)) ++ Zp c.q.pre ∧ T' = tl [(3, .osl (n + 1) ver 0 bs.length), (8, .loc kq 0 0 0 [])] ∧ LS H n [(kq, .arr 0 10 [Zq c.q]), (n, .arr 0 17 [Zh c])] (n + 1) ver (17000000) bs H' n') ⟨_, bs ++ Zp c.q.pre, by rw [hbs], rfl, ((hS.put (hS.lby (c.q.pre) (by have := hc.row; have := hc.frm; have := hc.to; have := hc.pre; have := hc.whr; have := hc.token; have := hc.conds; have := hc.ops; have := hc.fams; omega))).up (by have := hc.row; have := hc.frm; have := hc.to; have := hc.pre; have := hc.whr; have := hc.token; have := hc.conds; have := hc.ops; have := hc.fams; omega))⟩ ?_
  rintro T1 H1 n1 ⟨ver, bs, hbs, rfl, hS⟩
  have r1 := hS.get n (.arr 0 17 [Zh c]) (by simp); have rB := hS.buf
  have r6 := hS.get kq (.arr 0 10 [Zq c.q]) (by simp)
  refine Za zs [3, 8] fun K hK => ?_
  try simp only [go_sem, seval, r6, bys, Zq, Zr]
  refine Zg func88 rfl rfl rfl ((YL hS.buf (c.q.time) (by have := hS.len; have := hc.row; have := hc.frm; have := hc.to; have := hc.pre; have := hc.whr; have := hc.token; have := hc.conds; have := hc.ops; have := hc.fams; omega))) ?_
  try simp only [go_sem, seval]
  apply hK; clear hK K
  refine Z6 (fun T' H' n' => ∃ ver bs, bs = hdrB c ++ Zp c.q.frm ++ Zp c.q.to ++ Zm c.q.fams.length ++ c.q.fams.flatMap (fun f => Zm (u64 f)) ++ Zp c.q.pre ++ Zm (u64 (c.q.time)) ∧ T' = tl [(3, .osl (n + 1) ver 0 bs.length), (8, .loc kq 0 0 0 [])] ∧ LS H n [(kq, .arr 0 10 [Zq c.q]), (n, .arr 0 17 [Zh c])] (n + 1) ver (17000100) bs H' n') ⟨_, bs ++ Zm (u64 (c.q.time)), by rw [hbs], rfl, ((hS.put (hS.lu (c.q.time))).up (by have := hc.row; have := hc.frm; have := hc.to; have := hc.pre; have := hc.whr; have := hc.token; have := hc.conds; have := hc.ops; have := hc.fams; omega))⟩ ?_
  rintro T1 H1 n1 ⟨ver, bs, hbs, rfl, hS⟩
  have r1 := hS.get n (.arr 0 17 [Zh c]) (by simp); have rB := hS.buf
  have r6 := hS.get kq (.arr 0 10 [Zq c.q]) (by simp)
  refine Za zs [3, 8] fun K hK => ?_
  try simp only [go_sem, seval, r6, bys, Zq, Zr]
  refine Zg func88 rfl rfl rfl ((YL hS.buf (c.q.n) (by have := hS.len; have := hc.row; have := hc.frm; have := hc.to; have := hc.pre; have := hc.whr; have := hc.token; have := hc.conds; have := hc.ops; have := hc.fams; omega))) ?_
  try simp only [go_sem, seval]
  apply hK; clear hK K
  refine Z6 (fun T' H' n' => ∃ ver bs, bs = hdrB c ++ Zp c.q.frm ++ Zp c.q.to ++ Zm c.q.fams.length ++ c.q.fams.flatMap (fun f => Zm (u64 f)) ++ Zp c.q.pre ++ Zm (u64 (c.q.time)) ++ Zm (u64 (c.q.n)) ∧ T' = tl [(3, .osl (n + 1) ver 0 bs.length), (8, .loc kq 0 0 0 [])] ∧ LS H n [(kq, .arr 0 10 [Zq c.q]), (n, .arr 0 17 [Zh c])] (n + 1) ver (17000200) bs H' n') ⟨_, bs ++ Zm (u64 (c.q.n)), by rw [hbs], rfl, ((hS.put (hS.lu (c.q.n))).up (by have := hc.row; have := hc.frm; have := hc.to; have := hc.pre; have := hc.whr; have := hc.token; have := hc.conds; have := hc.ops; have := hc.fams; omega))⟩ ?_
  rintro T1 H1 n1 ⟨ver, bs, hbs, rfl, hS⟩
  have r1 := hS.get n (.arr 0 17 [Zh c]) (by simp); have rB := hS.buf
  have r6 := hS.get kq (.arr 0 10 [Zq c.q]) (by simp)
  refine Za zs [3, 8] fun K hK => ?_
  try simp only [go_sem, seval, r6, bys, Zq, Zr]
  refine Zg func88 rfl rfl rfl ((YL hS.buf (c.q.rows) (by have := hS.len; have := hc.row; have := hc.frm; have := hc.to; have := hc.pre; have := hc.whr; have := hc.token; have := hc.conds; have := hc.ops; have := hc.fams; omega))) ?_
  try simp only [go_sem, seval]
  apply hK; clear hK K
  refine Z6 (fun T' H' n' => ∃ ver bs, bs = hdrB c ++ Zp c.q.frm ++ Zp c.q.to ++ Zm c.q.fams.length ++ c.q.fams.flatMap (fun f => Zm (u64 f)) ++ Zp c.q.pre ++ Zm (u64 (c.q.time)) ++ Zm (u64 (c.q.n)) ++ Zm (u64 (c.q.rows)) ∧ T' = tl [(3, .osl (n + 1) ver 0 bs.length), (8, .loc kq 0 0 0 [])] ∧ LS H n [(kq, .arr 0 10 [Zq c.q]), (n, .arr 0 17 [Zh c])] (n + 1) ver (17000300) bs H' n') ⟨_, bs ++ Zm (u64 (c.q.rows)), by rw [hbs], rfl, ((hS.put (hS.lu (c.q.rows))).up (by have := hc.row; have := hc.frm; have := hc.to; have := hc.pre; have := hc.whr; have := hc.token; have := hc.conds; have := hc.ops; have := hc.fams; omega))⟩ ?_
  rintro T1 H1 n1 ⟨ver, bs, hbs, rfl, hS⟩
  have r1 := hS.get n (.arr 0 17 [Zh c]) (by simp); have rB := hS.buf
  have r6 := hS.get kq (.arr 0 10 [Zq c.q]) (by simp)
  refine Za zs [3, 8] fun K hK => ?_
  try simp only [go_sem, seval, r6, bys, Zq, Zr]
  refine Zg func89 rfl rfl rfl ((c_ref14_flag hS.buf (c.q.rev) (by have := hS.len; have := hc.row; have := hc.frm; have := hc.to; have := hc.pre; have := hc.whr; have := hc.token; have := hc.conds; have := hc.ops; have := hc.fams; omega))) ?_
  try simp only [go_sem, seval]
  apply hK; clear hK K
  refine Z6 (fun T' H' n' => ∃ ver bs, bs = hdrB c ++ Zp c.q.frm ++ Zp c.q.to ++ Zm c.q.fams.length ++ c.q.fams.flatMap (fun f => Zm (u64 f)) ++ Zp c.q.pre ++ Zm (u64 (c.q.time)) ++ Zm (u64 (c.q.n)) ++ Zm (u64 (c.q.rows)) ++ Ww c.q.rev ∧ T' = tl [(3, .osl (n + 1) ver 0 bs.length), (8, .loc kq 0 0 0 [])] ∧ LS H n [(kq, .arr 0 10 [Zq c.q]), (n, .arr 0 17 [Zh c])] (n + 1) ver (17000400) bs H' n') ⟨_, bs ++ Ww c.q.rev, by rw [hbs], rfl, ((hS.put (hS.l1 (Ww c.q.rev))).up (by show _ + 1 ≤ _; omega))⟩ ?_
  rintro T1 H1 n1 ⟨ver, bs, hbs, rfl, hS⟩
  have r1 := hS.get n (.arr 0 17 [Zh c]) (by simp); have rB := hS.buf
  have r6 := hS.get kq (.arr 0 10 [Zq c.q]) (by simp)
  refine Za zs [3, 8] fun K hK => ?_
  try simp only [go_sem, seval, r6, bys, Zq, Zr]
  refine Zg func90 rfl rfl rfl ((YV hS.buf (c.q.whr) (by have := hc.row; have := hc.frm; have := hc.to; have := hc.pre; have := hc.whr; have := hc.token; have := hc.conds; have := hc.ops; have := hc.fams; omega) (by have := hS.len; have := hc.row; have := hc.frm; have := hc.to; have := hc.pre; have := hc.whr; have := hc.token; have := hc.conds; have := hc.ops; have := hc.fams; omega))) ?_
  try simp only [go_sem, seval]
  apply hK; clear hK K
  refine Z6 (fun T' H' n' => ∃ ver bs, bs = hdrB c ++ Zp c.q.frm ++ Zp c.q.to ++ Zm c.q.fams.length ++ c.q.fams.flatMap (fun f => Zm (u64 f)) ++ Zp c.q.pre ++ Zm (u64 (c.q.time)) ++ Zm (u64 (c.q.n)) ++ Zm (u64 (c.q.rows)) ++ Ww c.q.rev ++ Zp c.q.whr ∧ T' = tl [(3, .osl (n + 1) ver 0 bs.length), (8, .loc kq 0 0 0 [])] ∧ LS H n [(kq, .arr 0 10 [Zq c.q]), (n, .arr 0 17 [Zh c])] (n + 1) ver (19000000) bs H' n') ⟨_, bs ++ Zp c.q.whr, by rw [hbs], rfl, ((hS.put (hS.lby (c.q.whr) (by have := hc.row; have := hc.frm; have := hc.to; have := hc.pre; have := hc.whr; have := hc.token; have := hc.conds; have := hc.ops; have := hc.fams; omega))).up (by have := hc.row; have := hc.frm; have := hc.to; have := hc.pre; have := hc.whr; have := hc.token; have := hc.conds; have := hc.ops; have := hc.fams; omega))⟩ ?_
  rintro T1 H1 n1 ⟨ver, bs, hbs, rfl, hS⟩
  have r1 := hS.get n (.arr 0 17 [Zh c]) (by simp); have rB := hS.buf
  have r6 := hS.get kq (.arr 0 10 [Zq c.q]) (by simp)
  refine Zl zs [3] fun K hK => ?_
  try simp only [go_sem, seval, r6, bys, Zq, Zr]
  refine Zg func90 rfl rfl rfl ((YV hS.buf (c.q.token) (by have := hc.row; have := hc.frm; have := hc.to; have := hc.pre; have := hc.whr; have := hc.token; have := hc.conds; have := hc.ops; have := hc.fams; omega) (by have := hS.len; have := hc.row; have := hc.frm; have := hc.to; have := hc.pre; have := hc.whr; have := hc.token; have := hc.conds; have := hc.ops; have := hc.fams; omega))) ?_
  try simp only [go_sem, seval]
  apply hK; clear hK K
  try simp only [go_sem, seval]
  apply hK2
  refine Y2 [3] ?_
  simp only [go_sem, seval]
  refine Z6 (fun T' H' n' => ∃ ver bs, bs = cmdB c ∧ T' = tl [(3, .osl (n + 1) ver 0 bs.length)] ∧ LS H n [(n, .arr 0 17 [Zh c])] (n + 1) ver (7000200000000) bs H' n') ⟨_, bs ++ Zp c.q.token, by rw [hbs, VN h1 h7]; simp [hk7, kOps, Yl, Yb, qryB], rfl, (((hS.put (hS.lby (c.q.token) (by have := hc.row; have := hc.frm; have := hc.to; have := hc.pre; have := hc.whr; have := hc.token; have := hc.conds; have := hc.ops; have := hc.fams; omega))).up (by have := hc.row; have := hc.frm; have := hc.to; have := hc.pre; have := hc.whr; have := hc.token; have := hc.conds; have := hc.ops; have := hc.fams; omega))).drop⟩ ?_
  rintro T1 H1 n1 ⟨ver, bs, hfin, rfl, hS⟩
  refine Za zs [2] fun K hK => ?_
  try simp only [go_sem, seval]
  apply hK; clear hK K
  refine Ze ?_
  try simp only [go_sem, seval]
  refine ⟨_, rfl, hS.low, .osl hS.buf (by omega) (by simp) ?_⟩
  rw [List.drop_zero, List.take_of_length_le (by simp), hfin]
  exact YE _ (YQ _ _)
 have hfin : bs = cmdB c := by rw [hbs, VN h1 h7]; have h3 : c.kind = 3 := (by simp at *; omega); simp [h3, kOps, Yl, Yb]
 refine Zd ?_
 try simp only [go_sem, seval]
 apply hK2
 clear hK2 K2
 refine Y2 [3] ?_
 simp only [go_sem, seval]
 refine Z6 (fun T' H' n' => ∃ ver bs, bs = cmdB c ∧ T' = tl [(3, .osl (n + 1) ver 0 bs.length)] ∧ LS H n [(n, .arr 0 17 [Zh c])] (n + 1) ver (7000200000000) bs H' n') ⟨_, bs, hfin, rfl, hS.up (by have := hc.row; have := hc.frm; have := hc.to; have := hc.pre; have := hc.whr; have := hc.token; have := hc.conds; have := hc.ops; have := hc.fams; omega)⟩ ?_
 rintro T1 H1 n1 ⟨ver, bs, hfin, rfl, hS⟩
 refine Za zs [2] fun K hK => ?_
 try simp only [go_sem, seval]
 apply hK; clear hK K
 refine Ze ?_
 try simp only [go_sem, seval]
 refine ⟨_, rfl, hS.low, .osl hS.buf (by omega) (by simp) ?_⟩
 rw [List.drop_zero, List.take_of_length_le (by simp), hfin]
 exact YE _ (YQ _ _)
theorem listsE_cb (nf : Nat) (c : CmdE) : YK nf c = if cb5 c then 20 else if cb6 nf c then 146 else if cb7 c then 144 else if cb8 nf c then 145 else 0 := by
 unfold YK cb5 cb6 cb7 cb8 kOps
 by_cases h4 : c.kind = 4
 ·simp only [h4]
  by_cases h1 : bout c.row.length 1 256 = true <;> by_cases h2 : 8 < c.conds.length <;> by_cases h3 : c.conds.all (Xz nf) = true <;> by_cases h5 : bout c.ops.length 1 16 = true <;> by_cases h6 : c.ops.all (opOK nf) = true <;> grind
 ·by_cases h1 : 0 < c.row.length <;> by_cases h2 : 0 < c.conds.length <;> by_cases h3 : 0 < c.ops.length <;> grind
theorem schemaE_or (s : List Fml) : Z7 s = 0 ∨ Z7 s = 28 := by unfold Z7; split <;> simp <;> split <;> simp
set_option maxRecDepth 100000 in
set_option maxHeartbeats 6400000 in
theorem c_ref14_Check (s : List Fml) (hs : s.length ≤ 2000000) (c : CmdE) (hc : c.fits) (qc : Int) (hq : Yb c.kind = true → ∀ H n, Ret prog 61 [Zu s, Zq c.q] H n (.int .i64 qc) H n) (H : Heap) (n : Nat) :
   Ret prog 16 [Zu s, Zh c] H n (.int .i64 (ZA qc s c)) H n := by
 have hszq := Yg c.q
 have haq : (Zq c.q).isAgg = true := rfl
 have hmq : (Zq c.q).memOK = true := rfl
 have hszs : (Zu s).sz = 1 := rfl
 have hags : (Zu s).isAgg = true := rfl
 have hmos : (Zu s).memOK = true := rfl
 refine Ret.fin ?_
 refine Zc func16 rfl ntmps16 (congrArg Array.toList results16) (by simp) ?_
 simp only [go_sem]
 refine Za zs [2, 3] fun K hK => ?_
 try simp only [go_sem, seval, Zh, hszq]
 apply hK; clear hK K
 refine Za zs [2, 3, 5] fun K hK => ?_
 try simp only [go_sem, seval]
 refine Zg func56 rfl rfl rfl ((QW s _ _)) ?_
 try simp only [go_sem, seval]
 apply hK; clear hK K
 refine Zb fun K1 hK1 => ?_
 refine Za zs [2, 3, 5, 9] fun K hK => ?_
 try simp only [go_sem, seval]
 apply hK; clear hK K
 refine Zf ?_ ?_ <;> intro hb
 ·skip
  have g0 : Z7 s = 28 := by rcases schemaE_or s with h | h <;> simp_all
  have hd : Z7 s = ZA qc s c := by unfold ZA; simp [g0]
  refine Za zs [4] fun K hK => ?_
  try simp only [go_sem, seval]
  apply hK; clear hK K
  refine Ze ?_
  try simp only [go_sem, seval]
  refine ⟨_, rfl, fun k hk => ?_, Frz.eq (congrArg (AV.int .i64) hd) trivial⟩
  (repeat rw [if_neg (by omega)])
 have g0 : Z7 s = 0 := by simpa using hb
 refine Zd ?_
 try simp only [go_sem, seval]
 apply hK1
 clear hK1 K1
 refine Zb fun K2 hK2 => ?_
 refine Za zs [2, 3, 13] fun K hK => ?_
 try simp only [go_sem, seval]
 refine Zg func57 rfl rfl rfl ((Ym c.kind 1 7 _ _)) ?_
 apply hK; clear hK K
 refine Zf ?_ ?_ <;> intro hb
 ·skip
  have g1 : bout c.kind 1 7 = true := hb
  have hd : 141 = ZA qc s c := by unfold ZA; simp [g0, g1]
  refine Za zs [4] fun K hK => ?_
  try simp only [go_sem, seval]
  apply hK; clear hK K
  refine Ze ?_
  try simp only [go_sem, seval]
  refine ⟨_, rfl, fun k hk => ?_, Frz.eq (congrArg (AV.int .i64) hd) trivial⟩
  (repeat rw [if_neg (by omega)])
 have g1 : bout c.kind 1 7 = false := hb
 have hk := X9 g1
 refine Zd ?_
 try simp only [go_sem, seval]
 apply hK2
 clear hK2 K2
 refine Zb fun K3 hK3 => ?_
 refine Za zs [2, 3, 16] fun K hK => ?_
 try simp only [go_sem, seval, hszq]
 refine Zg func58 rfl rfl rfl ((c_ref14_client c _ _)) ?_
 try simp only [go_sem, seval]
 apply hK; clear hK K
 refine Zf ?_ ?_ <;> intro hb
 ·skip
  have g2 : cb3 c = true := by simpa using hb
  have hd : 142 = ZA qc s c := by unfold ZA; simp [g0, g1, g2]
  refine Za zs [4] fun K hK => ?_
  try simp only [go_sem, seval]
  apply hK; clear hK K
  refine Ze ?_
  try simp only [go_sem, seval]
  refine ⟨_, rfl, fun k hk => ?_, Frz.eq (congrArg (AV.int .i64) hd) trivial⟩
  (repeat rw [if_neg (by omega)])
 have g2 : cb3 c = false := by simpa using hb
 refine Zd ?_
 try simp only [go_sem, seval]
 apply hK3
 clear hK3 K3
 refine Zb fun K4 hK4 => ?_
 refine Za zs [2, 3, 28] fun K hK => ?_
 try simp only [go_sem, seval]
 refine Zg func57 rfl rfl rfl ((Ym c.serial 0 1099511627776 _ _)) ?_
 try simp only [go_sem, seval]
 repeat refine peel ?_
 apply hK; clear hK K
 refine Zf ?_ ?_ <;> intro hb
 ·skip
  have g3 : cb4 c = true := by unfold cb4; grind
  have hd : 143 = ZA qc s c := by unfold ZA; simp [g0, g1, g2, g3]
  refine Za zs [4] fun K hK => ?_
  try simp only [go_sem, seval]
  apply hK; clear hK K
  refine Ze ?_
  try simp only [go_sem, seval]
  refine ⟨_, rfl, fun k hk => ?_, Frz.eq (congrArg (AV.int .i64) hd) trivial⟩
  (repeat rw [if_neg (by omega)])
 have g3 : cb4 c = false := by unfold cb4; grind
 refine Zd ?_
 try simp only [go_sem, seval]
 apply hK4
 clear hK4 K4
 refine Za zs [2, 3, 5] fun K hK => ?_
 try simp only [go_sem, seval, hszq]
 refine Zg func59 rfl rfl rfl ((c_ref14_lists s hs c _ _)) ?_
 try simp only [go_sem, seval]
 apply hK; clear hK K
 refine Zb fun K5 hK5 => ?_
 refine Za zs [2, 3, 5, 33] fun K hK => ?_
 try simp only [go_sem, seval]
 apply hK; clear hK K
 refine Zf ?_ ?_ <;> intro hb
 ·skip
  have hd : YK s.length c = ZA qc s c := by have h9 : YK s.length c ≠ 0 := (by simpa using hb); rw [listsE_cb] at h9 ⊢; unfold ZA; grind
  refine Za zs [4] fun K hK => ?_
  try simp only [go_sem, seval]
  apply hK; clear hK K
  refine Ze ?_
  try simp only [go_sem, seval]
  refine ⟨_, rfl, fun k hk => ?_, Frz.eq (congrArg (AV.int .i64) hd) trivial⟩
  (repeat rw [if_neg (by omega)])
 have g4 : YK s.length c = 0 := by simpa using hb
 rw [listsE_cb] at g4
 have g5 : cb5 c = false ∧ cb6 s.length c = false ∧ cb7 c = false ∧ cb8 s.length c = false := by grind
 refine Zd ?_
 try simp only [go_sem, seval]
 apply hK5
 clear hK5 K5
 refine Zb fun K6 hK6 => ?_
 refine Za zs [2, 3, 37] fun K hK => ?_
 try simp only [go_sem, seval, hszq]
 refine Zg func60 rfl rfl rfl ((c_ref14_amount c hk.1 _ _)) ?_
 try simp only [go_sem, seval]
 apply hK; clear hK K
 refine Zf ?_ ?_ <;> intro hb
 ·skip
  have g6 : cb9 c = true := by simpa using hb
  have hd : 148 = ZA qc s c := by unfold ZA; simp [g0, g1, g2, g3, g5, g6]
  refine Za zs [4] fun K hK => ?_
  try simp only [go_sem, seval]
  apply hK; clear hK K
  refine Ze ?_
  try simp only [go_sem, seval]
  refine ⟨_, rfl, fun k hk => ?_, Frz.eq (congrArg (AV.int .i64) hd) trivial⟩
  (repeat rw [if_neg (by omega)])
 have g6 : cb9 c = false := by simpa using hb
 refine Zd ?_
 try simp only [go_sem, seval]
 apply hK6
 clear hK6 K6
 refine Zb fun K7 hK7 => ?_
 refine Za zs [2, 3, 40] fun K hK => ?_
 try simp only [go_sem, seval]
 apply hK; clear hK K
 refine Zf ?_ ?_ <;> intro hb
 ·skip
  have g7 : Yb c.kind = true := hb
  refine Za zs [3, 5] fun K hK => ?_
  try simp only [go_sem, seval, hszq, haq]
  refine Zg func61 rfl rfl rfl ((hq g7 _ _)) ?_
  try simp only [go_sem, seval]
  apply hK; clear hK K
  refine Za zs [3, 5, 46] fun K hK => ?_
  try simp only [go_sem, seval]
  apply hK; clear hK K
  refine Zf ?_ ?_ <;> intro hb
  ·skip
   have g8 : qc ≠ 0 := by simpa using hb
   have hd : qc = ZA qc s c := by unfold ZA; simp [g0, g1, g2, g3, g5, g6, g7, g8]
   refine Za zs [4] fun K hK => ?_
   try simp only [go_sem, seval]
   apply hK; clear hK K
   refine Ze ?_
   try simp only [go_sem, seval]
   refine ⟨_, rfl, fun k hk => ?_, Frz.eq (congrArg (AV.int .i64) hd) trivial⟩
   (repeat rw [if_neg (by omega)])
  have g8 : qc = 0 := by simpa using hb
  have ht : ZA qc s c = WU c := by unfold ZA; simp [g0, g1, g2, g3, g5, g6, g7, g8]
  refine Zd ?_
  try simp only [go_sem, seval]
  apply hK7
  clear hK7 K7
  refine Zb fun K8 hK8 => ?_
  refine Za zs [55] fun K hK => ?_
  try simp only [go_sem, seval, hszq]
  refine Zg func63 rfl rfl rfl ((U4 c hc hk.1 hk.2 _ _)) ?_
  try simp only [go_sem, seval, List.length_map]
  apply hK; clear hK K
  refine Zf ?_ ?_ <;> intro hb
  ·skip
   have hd : 2 = ZA qc s c := by rw [ht]; unfold WU; rw [if_pos (by simpa using hb)]
   refine Za zs [4] fun K hK => ?_
   try simp only [go_sem, seval]
   apply hK; clear hK K
   refine Ze ?_
   try simp only [go_sem, seval]
   refine ⟨_, rfl, fun k hk => ?_, Frz.eq (congrArg (AV.int .i64) hd) trivial⟩
   (repeat rw [if_neg (by omega)])
  have hd : 0 = ZA qc s c := by rw [ht]; unfold WU; rw [if_neg (by simpa using hb)]
  refine Zd ?_
  try simp only [go_sem, seval]
  apply hK8
  clear hK8 K8
  refine Za zs [4] fun K hK => ?_
  try simp only [go_sem, seval]
  apply hK; clear hK K
  refine Ze ?_
  try simp only [go_sem, seval]
  refine ⟨_, rfl, fun k hk => ?_, Frz.eq (congrArg (AV.int .i64) hd) trivial⟩
  (repeat rw [if_neg (by omega)])
 have g7 : Yb c.kind = false := hb
 refine Za zs [3, 51] fun K hK => ?_
 try simp only [go_sem, seval, hszq, haq]
 refine Zg func62 rfl rfl rfl ((c_ref14_zero c.q _ _)) ?_
 try simp only [go_sem, seval]
 apply hK; clear hK K
 refine Zf ?_ ?_ <;> intro hb
 ·skip
  have g8 : c.q ≠ zq := by simpa using hb
  have hd : 130 = ZA qc s c := by unfold ZA; simp [g0, g1, g2, g3, g5, g6, g7, g8]
  refine Za zs [4] fun K hK => ?_
  try simp only [go_sem, seval]
  apply hK; clear hK K
  refine Ze ?_
  try simp only [go_sem, seval]
  refine ⟨_, rfl, fun k hk => ?_, Frz.eq (congrArg (AV.int .i64) hd) trivial⟩
  (repeat rw [if_neg (by omega)])
 have g8 : c.q = zq := by simpa using hb
 have ht : ZA qc s c = WU c := by unfold ZA; simp [g0, g1, g2, g3, g5, g6, g7, g8]
 refine Zd ?_
 try simp only [go_sem, seval]
 apply hK7
 clear hK7 K7
 refine Zb fun K9 hK9 => ?_
 refine Za zs [55] fun K hK => ?_
 try simp only [go_sem, seval, hszq]
 refine Zg func63 rfl rfl rfl ((U4 c hc hk.1 hk.2 _ _)) ?_
 try simp only [go_sem, seval, List.length_map]
 apply hK; clear hK K
 refine Zf ?_ ?_ <;> intro hb
 ·skip
  have hd : 2 = ZA qc s c := by rw [ht]; unfold WU; rw [if_pos (by simpa using hb)]
  refine Za zs [4] fun K hK => ?_
  try simp only [go_sem, seval]
  apply hK; clear hK K
  refine Ze ?_
  try simp only [go_sem, seval]
  refine ⟨_, rfl, fun k hk => ?_, Frz.eq (congrArg (AV.int .i64) hd) trivial⟩
  (repeat rw [if_neg (by omega)])
 have hd : 0 = ZA qc s c := by rw [ht]; unfold WU; rw [if_neg (by simpa using hb)]
 refine Zd ?_
 try simp only [go_sem, seval]
 apply hK9
 clear hK9 K9
 refine Za zs [4] fun K hK => ?_
 try simp only [go_sem, seval]
 apply hK; clear hK K
 refine Ze ?_
 try simp only [go_sem, seval]
 refine ⟨_, rfl, fun k hk => ?_, Frz.eq (congrArg (AV.int .i64) hd) trivial⟩
 (repeat rw [if_neg (by omega)])
set_option maxRecDepth 100000 in
theorem c_ref14_Encode (s : List Fml) (hs : s.length ≤ 2000000) (c : CmdE) (hc : c.fits) (qc : Int) (hq : Yb c.kind = true → ∀ H n, Ret prog 61 [Zu s, Zq c.q] H n (.int .i64 qc) H n) (H : Heap) (n : Nat) :
   Ret prog 18 [Zu s, Zh c] H n (.tup [bys (if ZA qc s c = 0 then cmdB c else []), .int .i64 (ZA qc s c)]) H n := by
 have hszs : (Zu s).sz = 1 := rfl
 have hags : (Zu s).isAgg = true := rfl
 have hmos : (Zu s).memOK = true := rfl
 have hcag : (Zh c).isAgg = true := rfl
 have hcmo : (Zh c).memOK = true := rfl
 have hsz : (Zh c).sz = 17 := ZZ c
 refine Ret.fin ?_
 refine Zc func18 rfl ntmps18 (congrArg Array.toList results18) (by simp) ?_
 simp only [go_sem]
 refine Za zs [2, 3] fun K hK => ?_
 try simp only [go_sem, seval, hcmo, hsz]
 apply hK; clear hK K
 refine Za zs [3, 6] fun K hK => ?_
 try simp only [go_sem, seval, hcag, hsz]
 refine Zg func16 rfl rfl rfl ((c_ref14_Check s hs c hc qc hq _ _)) ?_
 try simp only [go_sem, seval]
 apply hK; clear hK K
 refine Zb fun K1 hK1 => ?_
 refine Za zs [3, 6, 11] fun K hK => ?_
 try simp only [go_sem, seval]
 apply hK; clear hK K
 refine Zf ?_ ?_ <;> intro hb
 ·skip
  have hn : ¬ ZA qc s c = 0 := by simpa using hb
  refine Za zs [4, 5] fun K hK => ?_
  try simp only [go_sem, seval]
  apply hK; clear hK K
  refine Ze ?_
  try simp only [go_sem, seval]
  refine ⟨_, rfl, fun k hk => by (repeat rw [if_neg (by omega)]), ?_⟩
  (rw [if_neg hn]; exact .tup (.cons .nilsl (.cons (.kl trivial) .nil)))
 have hy : ZA qc s c = 0 := by simpa using hb
 refine Zd ?_
 try simp only [go_sem, seval]
 apply hK1
 clear hK1 K1
 refine Za zs [4, 5] fun K hK => ?_
 try simp only [go_sem, seval, hcag, hsz]
 refine Zg func63 rfl rfl rfl ((U4 c hc (VO hy).1 (VO hy).2 _ _)) ?_
 try simp only [go_sem, seval]
 apply hK; clear hK K
 refine Ze ?_
 try simp only [go_sem, seval]
 refine ⟨_, rfl, fun k hk => by (repeat rw [if_neg (by omega)]), ?_⟩
 (rw [hy, if_pos rfl]; exact .tup (.cons (.kl (ZH _ _)) (.cons (.kl trivial) .nil)))
end Go.Proofs.YtifnhpmeoogedaaGreatDoor
namespace Go.Sx
open Go
open Classical in
noncomputable def Ctx.frzK (c : Ctx) (H : Heap) (k : Nat) (w : World) : Ctx where
 ρ := c.ρ
 ro := fun b => match c.ro b with
   | some a => some a
   | none => if ∃ ver e els, H k = some (.arr ver e els) ∧ Zw c k (.arr ver e els) = some b then
       (match w.heap[b]? with | some (.cells a _ _) => some a | _ => none) else none
theorem Ctx.frzK_le (c : Ctx) (H : Heap) (k : Nat) (w : World) : c.le (c.frzK H k w) where
 ρ := fun h => h
 ro := fun {b a} h => by simp only [Ctx.frzK, h]
theorem Ctx.frzK_ro {c : Ctx} {H : Heap} {n : Nat} {w : World} (hs : Sim c H n w) {k ver e : Nat} {els : List AV} (hk : H k = some (.arr ver e els)) {b : Nat} (hbo : Zw c k (.arr ver e els) = some b) {arr : Array Value} {ty : TypeId} {fr : Nat × Nat} (hb : w.heap[b]? = some (.cells arr ty fr)) : (c.frzK H k w).ro b = some arr := by
 have h := hs.sep k _ b hk hbo
 simp only [Ctx.frzK, h]
 rw [if_pos ⟨ver, e, els, hk, hbo⟩, hb]
theorem Step.frzK {c : Ctx} {H : Heap} {n : Nat} {w : World} (hs : Sim c H n w) (k : Nat) : Step c H w (c.frzK H k w) (H.put k none) n w := by
 have hne : ∀ {k' o}, (H.put k none) k' = some o → k' ≠ k ∧ H k' = some o := fun {k' o} h => by
   by_cases e : k' = k
   ·subst e; rw [Heap.put_same] at h; cases h
   ·rw [Heap.put_ne _ _ e] at h; exact ⟨e, h⟩
 have hbo : ∀ k' o, Zw (c.frzK H k w) k' o = Zw c k' o := fun _ _ => rfl
 exact {
   le := c.frzK_le H k w
   sim := {
     ro := fun b a hb => by
       simp only [Ctx.frzK] at hb
       split at hb
       ·rename_i a' hr; cases hb; exact hs.ro b _ hr
       ·split at hb
        ·split at hb
         ·rename_i _ _ hw; cases hb; exact ⟨_, _, hw⟩
         ·simp at hb
        ·simp at hb
     own := fun k' o h => (hs.own k' o (hne h).2).mono (c.frzK_le H k w) (fun _ _ => rfl)
     sep := fun k' o b h hb => by
       rw [hbo] at hb
       have h4 := hs.sep k' o b (hne h).2 hb
       simp only [Ctx.frzK, h4]
       rw [if_neg]
       rintro ⟨ver, e, els, hk', hb'⟩
       exact (hne h).1 (hs.inj k' k o _ b (hne h).2 hk' hb hb')
     inj := fun k1 k2 o1 o2 b h1 h2 b1 b2 => hs.inj k1 k2 o1 o2 b (hne h1).2 (hne h2).2 b1 b2
     fresh := fun k' hk => ⟨by
       by_cases e : k' = k
       ·subst e; exact Heap.put_same _ _ _
       ·rw [Heap.put_ne _ _ e]; exact (hs.fresh k' hk).1, (hs.fresh k' hk).2⟩
     vers := fun k' o v h hv => hs.vers k' o v (hne h).2 hv }
   fr := .refl _ _
   new := fun b ⟨k', o, h, hb⟩ => .inl ⟨k', o, (hne h).2, hb⟩ }
def Frzn (k ver e : Nat) (els : List AV) (c : Ctx) : Prop := ∃ c0 H n w, Sim c0 H n w ∧ H k = some (.arr ver e els) ∧ c = c0.frzK H k w
theorem Frzn.osl {k ver e off len : Nat} {els : List AV} {c : Ctx} (hf : Frzn k ver e els c) (hlen : off + len ≤ els.length) {m : Bool} {cs : List Value} (hr : Rel c (.osl k ver off len) m cs) : Rel c (.sl e ((els.drop off).take len)) m cs := by
 obtain ⟨c0, H, n, w, hs, hk, rfl⟩ := hf
 have hys : ((els.drop off).take len).length = len := by simp; omega
 have ho := hs.own k _ hk
 simp only [Z9] at ho
 obtain ⟨l, hl, hm⟩ := ho
 simp only [Rel] at hr ⊢
 obtain ⟨l', hl', hmm⟩ := hr
 rw [show (c0.frzK H k w).ρ k ver = c0.ρ k ver from rfl, hl] at hl'; cases hl'
 cases l with
 | nil =>
   obtain ⟨_, h2, ev⟩ := hmm
   subst h2
   exact ⟨none, 0, by simpa using ev, by simp, by simp, .inl (by simp)⟩
 | blk b cap e' =>
   obtain ⟨he, hz, hc, arr, ty, ds, hb, hsz, hrf, ha⟩ := hm
   subst he
   obtain ⟨cp, o', h1, h2, h3, ev⟩ := hmm
   have hbo : Zw c0 k (.arr ver e' els) = some b := by simp [Zw, AObj.ver, hl]
   refine ⟨_, cp, by rw [hys]; exact ev, by rw [hys]; exact h1, fun x hx => hz x (List.mem_of_mem_drop (List.mem_of_mem_take hx)), ?_⟩
   by_cases h0 : len = 0
   ·left; exact List.length_eq_zero_iff.1 (by omega)
   ·right
    have eo : o' = off * e' := by rcases h3 with h3 | h3 <;> omega
    subst eo
    have e1 : els = els.take off ++ ((els.drop off).take len ++ (els.drop off).drop len) := by rw [List.take_append_drop, List.take_append_drop]
    rw [e1] at hrf
    obtain ⟨d1, r1, ed, hr1, hr2⟩ := RelF.append.1 hrf
    obtain ⟨d2, d3, ed2, hr3, hr4⟩ := RelF.append.1 hr2
    subst ed; subst ed2
    have hl1 : d1.length = off * e' := by
      rw [(RelF.len _ _ hr1).1, AV.szs_uniform (fun x hx => hz x (List.mem_of_mem_take hx)), List.length_take, Nat.min_eq_left (by omega)]
    obtain ⟨_, ha2⟩ := At.append.1 ha
    obtain ⟨ha3, _⟩ := At.append.1 ha2
    exact ⟨b, off * e', arr, d2, rfl, Ctx.frzK_ro hs hk hbo hb, RelF.mono (c0.frzK_le H k w) _ _ hr3, by rw [← hl1]; simpa using ha3⟩
def FzV (k ver e : Nat) (els : List AV) (a b : AV) : Prop := a.sz = b.sz ∧ ∀ c m cs, Frzn k ver e els c → Rel c a m cs → Rel c b m cs
def FzL (k ver e : Nat) (els : List AV) : List AV → List AV → Prop
 | [], [] => True
 | a :: l, b :: m => FzV k ver e els a b ∧ FzL k ver e els l m
 | _, _ => False
section
variable {k ver e : Nat} {els : List AV}
theorem FzV.refl (a : AV) : FzV k ver e els a a := ⟨rfl, fun _ _ _ _ h => h⟩
theorem FzV.osl {off len : Nat} (hlen : off + len ≤ els.length) : FzV k ver e els (.osl k ver off len) (.sl e ((els.drop off).take len)) := ⟨rfl, fun _ _ _ hf hr => hf.osl hlen hr⟩
theorem FzV.wk {a b : AV} (h : Wk a b) : FzV k ver e els a b := ⟨h.1, fun _ _ _ _ hr => h.2 _ _ _ hr⟩
theorem FzL.relF {c : Ctx} (hf : Frzn k ver e els c) : ∀ {l m : List AV} {cs : List Value}, FzL k ver e els l m → RelF c l cs → RelF c m cs
 | [], [], _, _, h => h
 | a :: l, b :: m, cs, hw, h => by
   simp only [RelF] at h ⊢
   obtain ⟨c1, c2, e, h1, h2⟩ := h
   exact ⟨c1, c2, e, hw.1.2 _ _ _ hf h1, FzL.relF hf hw.2 h2⟩
 | [], _ :: _, _, hw, _ => hw.elim
 | _ :: _, [], _, hw, _ => hw.elim
theorem FzL.szs : ∀ {l m : List AV}, FzL k ver e els l m → AV.szs l = AV.szs m
 | [], [], _ => rfl
 | a :: l, b :: m, hw => by simp only [AV.szs]; rw [hw.1.1, FzL.szs hw.2]
 | [], _ :: _, hw => hw.elim
 | _ :: _, [], hw => hw.elim
theorem FzL.len : ∀ {l m : List AV}, FzL k ver e els l m → l.length = m.length
 | [], [], _ => rfl
 | a :: l, b :: m, hw => by simp [FzL.len hw.2]
 | [], _ :: _, hw => hw.elim
 | _ :: _, [], hw => hw.elim
theorem FzL.szAll {e' : Nat} : ∀ {l m : List AV}, FzL k ver e els l m → (∀ x ∈ l, x.sz = e') → ∀ x ∈ m, x.sz = e'
 | [], [], _, _, x, hx => by simp at hx
 | a :: l, b :: m, hw, h, x, hx => by
   rcases List.mem_cons.1 hx with rfl | hx
   ·rw [← hw.1.1]; exact h a (by simp)
   ·exact FzL.szAll hw.2 (fun y hy => h y (by simp [hy])) x hx
 | [], _ :: _, hw, _, _, _ => hw.elim
 | _ :: _, [], hw, _, _, _ => hw.elim
theorem FzV.agg {l m : List AV} (h : FzL k ver e els l m) : FzV k ver e els (.agg l) (.agg m) := ⟨by simp only [AV.sz]; exact h.szs, fun c mm cs hf hr => by
 cases mm with
 | true => simp only [Rel] at hr ⊢; exact h.relF hf hr
 | false => simp only [Rel] at hr ⊢; obtain ⟨arr, e, hr⟩ := hr; exact ⟨arr, e, h.relF hf hr⟩⟩
end
theorem Qd {P : Program} {N : Nat} {code : Code} {T : Nat → AV} {H : Heap} {n : Nat} {Q : AEx → (Nat → AV) → Heap → Nat → Prop} (k j : Nat) {ver e vj ej : Nat} {els lj lj' : List AV} (hk : H k = some (.arr ver e els)) (hj : H j = some (.arr vj ej lj)) (hne : j ≠ k) (ha : FzL k ver e els lj lj')
   (h : awp P N code T ((H.put k none).put j (some (.arr vj ej lj'))) n Q) : awp P N code T H n Q :=
 Vq (fun c w tmps hs hr => by
   have hst := Step.frzK hs k
   have hst2 := Step.retell (els' := lj') hst.sim (k := j) (by rw [Heap.put_ne _ _ hne]; exact hj) (fun ds hd => ha.relF ⟨c, H, n, w, hs, hk, rfl⟩ hd) ha.len.symm ha.szAll
   exact ⟨_, hst.trans hst2, ZW.mono (hst.trans hst2).le hr⟩) h
theorem FzL.relT {k ver e : Nat} {els : List AV} {c : Ctx} (hf : Frzn k ver e els c) : ∀ {l m : List AV} {cs : List Value}, FzL k ver e els l m → RelT c l cs → RelT c m cs
 | [], [], _, _, h => h
 | a :: l, b :: m, cs, hw, h => by
   simp only [RelT] at h ⊢
   obtain ⟨c1, c2, e, h1, h2⟩ := h
   exact ⟨c1, c2, e, hw.1.2 _ _ _ hf h1, FzL.relT hf hw.2 h2⟩
 | [], _ :: _, _, hw, _ => hw.elim
 | _ :: _, [], _, hw, _ => hw.elim
theorem Zx.frzK {P : Program} {f : FuncId} {args args' : List AV} {H : Heap} {n : Nat} {K : ARes → Heap → Nat → Prop} (k : Nat) {ver e : Nat} {els : List AV} (hk : H k = some (.arr ver e els)) (ha : FzL k ver e els args args')
   (h : Zx P f args' (H.put k none) n K) : Zx P f args H n K := fun c w vs hs hr =>
 (h (c.frzK H k w) w vs (Step.frzK hs k).sim (ha.relT ⟨c, H, n, w, hs, hk, rfl⟩ (RelT.mono (c.frzK_le H k w) _ _ hr))).mono fun _ _ ⟨res, c', H', n', hK, hst, hm⟩ => ⟨res, c', H', n', hK, (Step.frzK hs k).trans hst, hm⟩
theorem Ret.frzK {P : Program} {f : FuncId} {args args' : List AV} {H : Heap} {n : Nat} {r : AV} {H' : Heap} {n' : Nat} (k : Nat) {ver e : Nat} {els : List AV} (hk : H k = some (.arr ver e els)) (ha : FzL k ver e els args args') (h : Ret P f args' (H.put k none) n r H' n') : Ret P f args H n r H' n' := Zx.frzK k hk ha h
theorem Zx.below {P : Program} {f : FuncId} {args : List AV} {H : Heap} {n : Nat} {K : ARes → Heap → Nat → Prop} {k : Nat} {o : AObj} (hk : H k = some o) (h : k < n → Zx P f args H n K) : Zx P f args H n K := fun c w vs hs hr =>
 h (by
   rcases Nat.lt_or_ge k n with h1 | h1
   ·exact h1
   ·rw [(hs.fresh k h1).1] at hk; cases hk) c w vs hs hr
theorem Ret.below {P : Program} {f : FuncId} {args : List AV} {H : Heap} {n : Nat} {r : AV} {H' : Heap} {n' : Nat} {k : Nat} {o : AObj} (hk : H k = some o) (h : k < n → Ret P f args H n r H' n') : Ret P f args H n r H' n' := Zx.below hk h
end Go.Sx
namespace Go.Proofs.YtifnhpmeoogedaaGreatDoor
open Go Go.Sx Go.Rt Go.Proofs Tryz
def c9 : CmdE := { zc with kind := 4, row := [114], conds := List.replicate 9 ⟨0, 0, [], []⟩ }
def zcd : AV := .agg [.int .i64 0, .int .i64 0, .nilsl, .nilsl]
def qz : AV := .agg [.nilsl, .nilsl, .nilsl, .nilsl, .int .i64 0, .int .i64 0, .int .i64 0, .bool false, .str [], .nilsl]
theorem fz_bytes (k m : Nat) : FzV k 0 1 (List.replicate m (AV.int .u8 0)) (.osl k 0 0 m) (bys (List.replicate m 0)) := by
 have h := FzV.osl (k := k) (ver := 0) (e := 1) (els := List.replicate m (AV.int .u8 0)) (off := 0) (len := m) (by simp)
 rw [List.drop_zero, List.take_of_length_le (by simp)] at h
 have e : (List.replicate m (0 : UInt8)).map Zo = List.replicate m (AV.int .u8 0) := by rw [List.map_replicate]; rfl
 unfold bys; rw [e]; exact h
theorem rdCmd_zero (m : Nat) : Wm (List.replicate m 0) = none := by
 unfold Wm rs1 Xw
 cases m with
 | zero => rfl
 | succ m => simp [List.replicate_succ, bout]
theorem decC_none (qc : QryE → Int) (b : List UInt8) : decC qc [] b = (zc, 28) := by unfold decC; rw [if_pos (by decide)]
theorem Uk : Wk zcd (Zt ⟨0, 0, [], []⟩) := Wk.agg ⟨.refl _, .refl _, .nilsl _, .nilsl _, trivial⟩
theorem wk_c9 : Wk (.agg [.int .i64 4, .int .i64 0, .int .i64 0, .sl 1 [.int .u8 114], .sl 4 (List.replicate 9 zcd), .nilsl, .int .i64 0, qz]) (Zh c9) :=
 Wk.agg ⟨.refl _, .refl _, .refl _, .refl _, .sl ⟨Uk, Uk, Uk, Uk, Uk, Uk, Uk, Uk, Uk, trivial⟩, .nilsl _, .refl _, Wk.agg ⟨.nilsl _, .nilsl _, .nilsl _, .nilsl _, .refl _, .refl _, .refl _, .refl _, .refl _, .nilsl _, trivial⟩, trivial⟩
set_option maxRecDepth 100000 in
theorem c_law14_firsts {H : Heap} {n : Nat} (hG : GOK 0 2 H n) : Ret prog 46 [] H n (.bool true) H n := by
 refine Ret.fin ?_
 refine Zc func46 rfl ntmps46 (congrArg Array.toList results46) (by simp) ?_
 simp only [go_sem]
 refine ZB zs [] ?_
 refine ZB zo [1] ?_
 refine Qd (n + 1) (n + 2) (ver := 0) (e := 4) (els := List.replicate 9 zcd) (vj := 0) (ej := 17) (lj := [.agg [.int .i64 4, .int .i64 0, .int .i64 0, .sl 1 [.int .u8 114], .osl (n + 1) 0 0 9, .nilsl, .int .i64 0, qz]]) (lj' := [.agg [.int .i64 4, .int .i64 0, .int .i64 0, .sl 1 [.int .u8 114], .sl 4 (List.replicate 9 zcd), .nilsl, .int .i64 0, qz]]) (by simp [Heap.put]; rfl) (by simp [Heap.put]; rfl) (by omega) ⟨FzV.agg ⟨.refl _, .refl _, .refl _, .refl _, FzV.osl (off := 0) (len := 9) (by simp), .refl _, .refl _, .refl _, trivial⟩, trivial⟩ ?_
 refine WI (n + 2) (ver := 0) (e := 17) (els := [.agg [.int .i64 4, .int .i64 0, .int .i64 0, .sl 1 [.int .u8 114], .sl 4 (List.replicate 9 zcd), .nilsl, .int .i64 0, qz]]) (els' := [Zh c9]) (Heap.put_same _ _ _) ⟨wk_c9, trivial⟩ ?_
 refine Yh (fun H' n' => H' (n + 2) = some (.arr 0 17 [Zh c9]) ∧ (∀ k, k < n → H' k = H k) ∧ n + 3 ≤ n') ⟨Heap.put_same _ _ _, fun k hk => by simp only [Heap.put_get]; (repeat rw [if_neg (by omega)]), by omega⟩ fun H1 n1 ⟨k1, hl, hn⟩ => ?_
 refine Za zs [1, 3] fun K hK => ?_
 try simp only [go_sem, seval, -List.reduceReplicate]
 generalize hm : (98305 : Nat) = m
 have hct := fun (Hc : Heap) (hc : GOK 0 2 Hc (n1 + 1)) => Ws [] (by simp) (List.replicate m 0) (by rw [List.length_replicate]; omega) (fun _ => 0) hc (fun c h => by rw [rdCmd_zero] at h; cases h)
 rw [decC_none] at hct
 refine Zg (args' := [.agg [.nilsl], .osl n1 0 0 m]) func26 rfl rfl rfl (Ret.frzK n1 (Heap.put_same _ _ _) (args' := [Zu [], bys (List.replicate m 0)]) ⟨FzV.agg ⟨FzV.wk (Wk.nilsl 3), trivial⟩, fz_bytes n1 m, trivial⟩ (hct _ (hG.on (fun k hk => by rw [Heap.put_ne _ _ (by omega), Heap.put_ne _ _ (by omega), hl k hk]) (by omega)))) ?_
 try simp only [go_sem, seval, -List.reduceReplicate, ZZ]
 repeat refine peel ?_
 apply hK; clear hK K
 have hGK : ∀ k, k < n → ((H1.put n1 none).put (n1 + 1) (some (.arr 0 17 [Zh zc]))) k = H k := fun k hk => by rw [Heap.put_ne _ _ (by omega), Heap.put_ne _ _ (by omega), hl k hk]
 have hGa := (hGK 0 hG.gek).trans hG.kinds
 have hGb := (hGK 2 hG.get).trans hG.table
 have e1 : (n + 2 = n1 + 1) = False := by simp; omega
 have e2 : (n + 2 = n1) = False := by simp; omega
 have hq1 : ZA 0 [] { zc with kind := 99 } = 28 := by decide
 have hq2 : ZA 0 [⟨[102], 1, 0⟩] c9 = 146 := by decide
 have hcag : (Zh c9).isAgg = true := rfl
 have hcmo : (Zh c9).memOK = true := rfl
 have hbb : (true == true) = true := rfl
 have hb28 : ((28 : Int) == 28) = true := rfl
 have hb146 : ((146 : Int) == 146) = true := rfl
 refine VS rfl zs [0] [.q, .q, .c, .q, .m, .m, .q, .q, .m, .c, .q, .c, .q, .q, .q] [0, 1, 2, 3, 4, 5, 6, 7, 8, 9, 10, 11, 12, 13, 14] [0, 1, 2, 3, 4, 5, 6, 7, 8, 9, 10, 11, 12, 13, 14] (by kernel_rfl) (fun _ _ _ _ _ h => h) fun K hK => ?_
 try simp only [go_sem, seval, k1, e1, e2, ZZ, hcag]
 repeat refine peel ?_
 refine ZL func15 rfl rfl rfl (fun _ n9 => Ret.wk (Ret.below hGa fun g1 => Ret.below hGb fun g2 => Xh [] (by simp) { zc with kind := 99 } (let z := zc_fits; ⟨z.1, z.2, z.3, z.4, z.5, z.6, z.7, z.8, z.9, z.10, z.11⟩) 0 (fun h => by cases h) _ n9 ⟨hGa, hGb, g1, g2⟩) ⟨Wk.agg ⟨.nilsl _, trivial⟩, Wk.agg ⟨.refl _, .refl _, .refl _, .nilsl _, .nilsl _, .nilsl _, .refl _, Wk.agg ⟨.nilsl _, .nilsl _, .nilsl _, .nilsl _, .refl _, .refl _, .refl _, .refl _, .refl _, .nilsl _, trivial⟩, trivial⟩, trivial⟩) ?_
 try simp only [go_sem, seval, hq1, hbb, hb28]
 refine ZL func41 rfl rfl rfl (fun _ n => (Wi _ _)) ?_
 try simp only [go_sem, seval]
 refine ZL func15 rfl rfl rfl (fun _ n9 => Ret.below hGa fun g1 => Ret.below hGb fun g2 => Xh [⟨[102], 1, 0⟩] (by simp) c9 (let z := zc_fits; ⟨by decide, by decide, by decide, z.4, z.5, z.6, z.7, z.8, z.9, z.10, z.11⟩) 0 (fun h => by cases h) _ n9 ⟨hGa, hGb, g1, g2⟩) ?_
 try simp only [go_sem, seval, hq2, hb146]
 apply hK; clear hK K
 refine Ze ?_
 try simp only [go_sem, seval]
 exact ⟨_, rfl, fun k hk => by rw [if_neg (by omega), if_neg (by omega), hl k hk], .kl trivial⟩
def c8 : CmdE := { zc with kind := 4, row := [114], ops := [⟨5, 0, [113], 0, [], -1⟩] }
def r8 : RepE := { zr with value := 7 }
def s1 : List Fml := [⟨[102], 1, 0⟩]
theorem Qs : c8.fits := let z := zc_fits; ⟨by decide, z.2, z.3, by decide, by decide, z.6, z.7, z.8, z.9, z.10, z.11⟩
theorem c8_B : cmdB c8 = [4, 0, 0, 1, 114, 0, 1, 5, 0, 1, 113, 0, 0, 255, 255, 255, 255, 255, 255, 255, 255] := by
 simp [cmdB, c8, zc, Zp, WT, u64, opB, XJ, ZU, Yx, ZP, YO]
theorem chk8 (qc : Int) : ZA qc s1 c8 = 0 := by
 have h : WU c8 = 0 := by unfold WU; rw [c8_B]; rfl
 unfold ZA
 rw [h]
 have : Yb c8.kind = false := rfl
 rw [this]
 simp only [Bool.false_eq_true, ↓reduceIte]
 decide
theorem dec8 (qc : QryE → Int) : decC qc s1 (cmdB c8) = (c8, 0) := by
 have h1 : Wm (cmdB c8) = some c8 := by rw [c8_B]; decide +kernel
 unfold decC
 rw [if_neg (by decide), if_neg (by rw [c8_B]; decide), h1]
 simp only []
 rw [if_pos ⟨chk8 _, trivial⟩]
theorem dec0 (qc : QryE → Int) : decC qc s1 [] = (zc, 140) := by
 unfold decC
 rw [if_neg (by decide), if_neg (by decide)]
 have h1 : Wm [] = none := by decide +kernel
 rw [h1]
theorem r8_B : repB r8 = [0, 0, 7, 0, 0, 0] := by
 simp [repB, r8, zr, Zp, WT, u64, Ww]
theorem enc8 : encR r8 = (repB r8, 0) := by
 unfold encR
 rw [if_neg (by decide), if_neg (by rw [r8_B]; decide)]
theorem decr8 : decR (repB r8) = (r8, 0) := by
 have h1 : rdRep (repB r8) = some r8 := by rw [r8_B]; decide +kernel
 unfold decR
 rw [if_neg (by rw [r8_B]; decide), h1]
 simp only []
 rw [if_pos ⟨by decide, trivial⟩]
theorem rd8 : Wm (cmdB c8) = some c8 := by rw [c8_B]; decide +kernel
theorem rd0 : Wm [] = none := by decide +kernel
theorem wk_r8 : Wk (.agg [.int .i64 0, .bool false, .int .i64 7, .agg [.nilsl, .nilsl, .bool false]]) (ZM r8) := Wk.agg ⟨.refl _, .refl _, .refl _, Wk.agg ⟨.nilsl _, .nilsl _, .refl _, trivial⟩, trivial⟩
theorem wk_c8 : Wk (.agg [.int .i64 4, .int .i64 0, .int .i64 0, .sl 1 [.int .u8 114], .nilsl, .sl 6 [.agg [.int .i64 5, .int .i64 0, .sl 1 [.int .u8 113], .int .i64 0, .nilsl, .int .i64 (-1)]], .int .i64 0, qz]) (Zh c8) :=
 Wk.agg ⟨.refl _, .refl _, .refl _, .refl _, .nilsl _, .sl ⟨Wk.agg ⟨.refl _, .refl _, .refl _, .refl _, .nilsl _, .refl _, trivial⟩, trivial⟩, .refl _, Wk.agg ⟨.nilsl _, .nilsl _, .nilsl _, .nilsl _, .refl _, .refl _, .refl _, .refl _, .refl _, .nilsl _, trivial⟩, trivial⟩
set_option maxRecDepth 100000 in
set_option maxHeartbeats 3200000 in
theorem c_law14_told {H : Heap} {n : Nat} (hG : GOK 0 2 H n) : Ret prog 12 [] H n (.bool true) H n := by
 have k1 : (0 : Nat) = 0 := rfl
 have hcag : (Zh c8).isAgg = true := rfl
 have hcmo : (Zh c8).memOK = true := rfl
 refine Ret.fin ?_
 refine Zc func12 rfl ntmps12 (congrArg Array.toList results12) (by simp) ?_
 simp only [go_sem]
 refine Za zs [] fun K hK => ?_
 try simp only [go_sem, seval]
 apply hK; clear hK K
 refine Za zo [1] fun K hK => ?_
 try simp only [go_sem, seval]
 repeat refine peel ?_
 apply hK; clear hK K
 refine Qd (n + 2) (n + 3) (ver := 0) (e := 6) (els := [.agg [.int .i64 5, .int .i64 0, .sl 1 [.int .u8 113], .int .i64 0, .nilsl, .int .i64 (-1)]]) (vj := 0) (ej := 17) (lj := [.agg [.int .i64 4, .int .i64 0, .int .i64 0, .sl 1 [.int .u8 114], .nilsl, .osl (n + 2) 0 0 1, .int .i64 0, qz]]) (lj' := [.agg [.int .i64 4, .int .i64 0, .int .i64 0, .sl 1 [.int .u8 114], .nilsl, .sl 6 [.agg [.int .i64 5, .int .i64 0, .sl 1 [.int .u8 113], .int .i64 0, .nilsl, .int .i64 (-1)]], .int .i64 0, qz]]) (by simp [Heap.put]) (by simp [Heap.put]; rfl) (by omega) ⟨FzV.agg ⟨.refl _, .refl _, .refl _, .refl _, .refl _, FzV.osl (off := 0) (len := 1) (by simp), .refl _, .refl _, trivial⟩, trivial⟩ ?_
 refine WI (n + 3) (ver := 0) (e := 17) (els := [.agg [.int .i64 4, .int .i64 0, .int .i64 0, .sl 1 [.int .u8 114], .nilsl, .sl 6 [.agg [.int .i64 5, .int .i64 0, .sl 1 [.int .u8 113], .int .i64 0, .nilsl, .int .i64 (-1)]], .int .i64 0, qz]]) (els' := [Zh c8]) (Heap.put_same _ _ _) ⟨wk_c8, trivial⟩ ?_
 refine Yh (fun H' n' => H' (n + 3) = some (.arr 0 17 [Zh c8]) ∧ (∀ k, k < n → H' k = H k) ∧ n + 4 ≤ n') ⟨Heap.put_same _ _ _, fun k hk => by simp only [Heap.put_get]; (repeat rw [if_neg (by omega)]), by omega⟩ fun H1 n1 ⟨k1, hl, hn⟩ => ?_
 have hGa := (hl 0 hG.gek).trans hG.kinds
 have hGb := (hl 2 hG.get).trans hG.table
 have hE := fun n9 => Ret.below hGa fun g1 => Ret.below hGb fun g2 => U9 s1 (by decide) c8 Qs 0 (H := H1) (n := n9) ⟨hGa, hGb, g1, g2⟩ (fun h => by cases h)
 have hE2 := fun n9 => c_ref14_Encode s1 (by decide) c8 Qs 0 (fun h => by cases h) H1 n9
 simp only [chk8, ↓reduceIte] at hE hE2
 refine VS rfl zs [1, 2, 3] [.c, .q, .c, .m, .q, .q, .q, .q] [0, 1, 2, 3, 4, 5, 6, 7] [0, 1, 2, 3, 4, 5, 6, 7] (by kernel_rfl) (fun _ _ _ _ _ h => h) fun K hK => ?_
 try simp only [go_sem, seval, k1, ZZ, hcag]
 refine ZL func41 rfl rfl rfl (fun _ n => (Wi _ _)) ?_
 try simp only [go_sem, seval]
 refine ZL func17 rfl rfl rfl (fun _ n9 => hE n9) ?_
 try simp only [go_sem, seval]
 apply hK; clear hK K
 refine VS rfl zs [1, 2, 3, 4] [.c, .q, .c, .m, .q, .q, .q, .q] [0, 1, 2, 3, 4, 5, 6, 7] [0, 1, 2, 3, 4, 5, 6, 7] (by kernel_rfl) (fun _ _ _ _ _ h => h) fun K hK => ?_
 try simp only [go_sem, seval, k1, ZZ, hcag]
 refine ZL func41 rfl rfl rfl (fun _ n => (Wi _ _)) ?_
 try simp only [go_sem, seval]
 refine ZL func18 rfl rfl rfl (fun _ n9 => hE2 n9) ?_
 try simp only [go_sem, seval]
 apply hK; clear hK K
 refine Za zs [1, 2, 3, 4, 6, 7] fun K hK => ?_
 try simp only [go_sem, seval]
 refine Zg func41 rfl rfl rfl ((Wi _ _)) ?_
 try simp only [go_sem, seval]
 have hD := fun (Hc : Heap) (nc : Nat) (hc : GOK 0 2 Hc nc) => Ws s1 (by decide) (cmdB c8) (by rw [c8_B]; decide) (fun _ => 0) hc (fun c h hk => by rw [rd8] at h; cases h; cases hk)
 simp only [dec8] at hD
 refine Zg func26 rfl rfl rfl (hD _ _ (hG.on (fun k hk => by (try simp only [Heap.put_get]); (repeat rw [if_neg (by omega)]); exact hl k hk) (by omega))) ?_
 try simp only [go_sem, seval, ZZ, hcmo]
 apply hK; clear hK K
 refine Za zs [1, 2, 3, 4, 6, 7, 8] fun K hK => ?_
 try simp only [go_sem, seval]
 repeat refine peel ?_
 apply hK; clear hK K
 refine WI (n1 + 1) (ver := 0) (e := 6) (els := [.agg [.int .i64 0, .bool false, .int .i64 7, .agg [.nilsl, .nilsl, .bool false]]]) (els' := [ZM r8]) (by simp [Heap.put]) ⟨wk_r8, trivial⟩ ?_
 refine Za zs [1, 2, 3, 4, 6, 7, 8, 9, 10] fun K hK => ?_
 try simp only [go_sem, seval, WV]
 repeat refine peel ?_
 have hR := fun (Hc : Heap) (nc : Nat) => Qx r8 (by decide) (by decide) (by decide) Hc nc
 simp only [enc8] at hR
 refine Zg func33 rfl rfl rfl (hR _ _) ?_
 try simp only [go_sem, seval]
 apply hK; clear hK K
 refine Za zs [1, 2, 3, 4, 6, 7, 8, 10, 11, 12] fun K hK => ?_
 try simp only [go_sem, seval]
 have hP := fun (Hc : Heap) (nc : Nat) => Qy (repB r8) (H := Hc) (n := nc)
 simp only [decr8] at hP
 refine Zg func37 rfl rfl rfl (hP _ _) ?_
 try simp only [go_sem, seval, WV]
 repeat refine peel ?_
 apply hK; clear hK K
 refine Za zs [1, 2, 3, 4, 6, 7, 8, 10, 11, 12, 14] fun K hK => ?_
 try simp only [go_sem, seval]
 refine Zg func41 rfl rfl rfl ((Wi _ _)) ?_
 try simp only [go_sem, seval]
 have hN := fun (Hc : Heap) (nc : Nat) (hc : GOK 0 2 Hc nc) => Ret.wk (args := [Zu s1, .nilsl]) (Ws s1 (by decide) [] (by decide) (fun _ => 0) hc (fun c h hk => by rw [rd0] at h; cases h)) ⟨.refl _, .nilsl _, trivial⟩
 simp only [dec0] at hN
 refine Zg func26 rfl rfl rfl (hN _ _ (hG.on (fun k hk => by (try simp only [Heap.put_get]); (repeat rw [if_neg (by omega)]); exact hl k hk) (by omega))) ?_
 try simp only [go_sem, seval, ZZ]
 repeat refine peel ?_
 apply hK; clear hK K
 refine Zb fun K1 hK1 => ?_
 refine Za zs [1, 2, 3, 4, 6, 7, 8, 10, 11, 12, 14, 58] fun K hK => ?_
 try simp only [go_sem, seval]
 refine Zg func46 rfl rfl rfl ((c_law14_firsts (hG.on (fun k hk => by (try simp only [Heap.put_get]); (repeat rw [if_neg (by omega)]); exact hl k hk) (by omega)))) ?_
 try simp only [go_sem, seval]
 apply hK; clear hK K
 refine Zf ?_ ?_ <;> intro hb
 ·skip
  exact absurd hb (by decide) --dead
 refine Zd ?_
 try simp only [go_sem, seval]
 apply hK1
 clear hK1 K1
 have hbb : (true == true) = true := rfl
 have hb0 : ((0 : Int) == 0) = true := rfl
 have hb1 : ((140 : Int) == 140) = true := rfl
 have hs1 : decide (cmdB c8 = cmdB c8) = true := by simp
 have hs2 : decide (c8 = c8) = true := by simp
 have hs3 : decide (r8 = r8) = true := by simp
 have hs4 : decide (c8 = zc) = false := by decide
 have e0 : (n + 3 = n1) = False := by simp; omega
 have e1 : (n + 3 = n1 + 1) = False := by simp; omega
 have e2 : (n + 3 = n1 + 2) = False := by simp; omega
 have e3 : (n + 3 = n1 + 3) = False := by simp; omega
 have hca : ∀ c, (Zh c).isAgg = true := fun _ => rfl
 have hcm : ∀ c, (Zh c).memOK = true := fun _ => rfl
 have hra : ∀ c, (ZM c).isAgg = true := fun _ => rfl
 have hrm : ∀ c, (ZM c).memOK = true := fun _ => rfl
 have hdt : decide True = true := rfl
 have e5 : (n1 = n1 + 1 + 2) = False := by simp; omega
 have e6 : (n1 + 1 = n1 + 1 + 2) = False := by simp
 have e7 : (n1 + 2 = n1 + 1 + 2) = False := by simp
 have e8 : (n + 1 + 2 = n1 + 1 + 2) = False := by simp; omega
 refine Za zs [1, 6, 8, 11, 15] fun K hK => ?_
 try simp only [go_sem, seval, hbb, hb0, hb1]
 refine Zv func19 rfl rfl rfl (fun _ => Wt (cmdB c8) (cmdB c8) (by rw [c8_B]; decide) _ _) ?_
 try simp only [go_sem, seval, k1, ZZ, hcag, hdt, e5, e8, hbb, e0, e1, e2]
 refine Zv func28 rfl rfl rfl (fun _ => Vm c8 c8 Qs _ _) ?_
 try simp only [go_sem, seval, hdt]
 apply hK; clear hK K
 have hl2 := fun (k : Nat) (hk : k < n) => hl k hk
 have hC := fun (Hc : Heap) (n9 : Nat) (ha : Hc 0 = some (.glob 5 Wo)) (hb : Hc 2 = some (.glob 1 Ul)) => Ret.below ha fun g1 => Ret.below hb fun g2 => Xh s1 (by decide) c8 Qs 0 (fun h => by cases h) Hc n9 ⟨ha, hb, g1, g2⟩
 simp only [chk8] at hC
 have hnf : ((!false) == true) = true := rfl
 refine VS rfl zs [0] [.m, .m, .q, .q, .c, .q, .m, .q, .q, .c, .q, .m, .q, .q, .c, .q, .q, .m, .c, .q, .c, .q, .q, .q] [0, 1, 2, 3, 4, 5, 6, 7, 8, 9, 10, 11, 12, 13, 14, 15, 16, 17, 18, 19, 20, 21, 22, 23] [0, 1, 2, 3, 4, 5, 6, 7, 8, 9, 10, 11, 12, 13, 14, 15, 16, 17, 18, 19, 20, 21, 22, 23] (by kernel_rfl) (fun _ _ _ _ _ h => h) fun K hK => ?_
 try simp only [go_sem, seval, k1, ZZ, WV, hcag, e5, e6, e7, e8, hbb, e0, e1, e2, hra]
 refine ZL func38 rfl rfl rfl (fun _ n => (Jp r8 r8 (by decide) (by decide) _ _)) ?_
 try simp only [go_sem, seval, hdt, hbb]
 refine ZL func31 rfl rfl rfl (fun _ n => (Jv c8 c8 Qs _ _)) ?_
 try simp only [go_sem, seval, hdt, hbb]
 refine ZL func31 rfl rfl rfl (fun _ n => (Ret.wk (args := [Zh c8, cmdZ]) (Jv c8 zc Qs _ _) ⟨.refl _, cmdZ_wk, trivial⟩)) ?_
 try simp only [go_sem, seval, Bool.not_false, hbb, hs4]
 refine ZL func41 rfl rfl rfl (fun _ n => (Wi _ _)) ?_
 try simp only [go_sem, seval]
 refine ZL func15 rfl rfl rfl (fun _ n9 => hC _ n9 (by rw [Heap.put_ne _ _ (by have := hG.gek; omega), Heap.put_ne _ _ (by have := hG.gek; omega), Heap.put_ne _ _ (by have := hG.gek; omega), Heap.put_ne _ _ (by have := hG.gek; omega)]; exact (hl _ hG.gek).trans hG.kinds) (by rw [Heap.put_ne _ _ (by have := hG.get; omega), Heap.put_ne _ _ (by have := hG.get; omega), Heap.put_ne _ _ (by have := hG.get; omega), Heap.put_ne _ _ (by have := hG.get; omega)]; exact (hl _ hG.get).trans hG.table)) ?_
 try simp only [go_sem, seval, hb0]
 apply hK; clear hK K
 refine Ze ?_
 try simp only [go_sem, seval]
 refine ⟨_, rfl, fun k hk => ?_, .kl trivial⟩
 (repeat rw [if_neg (by omega)])
 exact hl k hk
end Go.Proofs.YtifnhpmeoogedaaGreatDoor
namespace Go.Rt
open Go Go.Sx
def QA (x : YG) : YG := { x with qual := x.qual.take 5000, value := x.value.take 5000 }
def opT (x : OpE) : OpE := { x with qual := x.qual.take 5000, value := x.value.take 5000 }
def qryT (q : QryE) : QryE := { q with frm := q.frm.take 5000, to := q.to.take 5000, pre := q.pre.take 5000, token := q.token.take 5000, whr := q.whr.take 5000, fams := q.fams.take 20 }
def cmdT (c : CmdE) : CmdE := { c with row := c.row.take 5000, conds := (c.conds.take 20).map QA, ops := (c.ops.take 20).map opT, q := qryT c.q }
theorem XW (l : List UInt8) : (l.take 5000).length ≤ 1048576 := by rw [List.length_take]; omega
theorem J4 (c : CmdE) : (cmdT c).fits := by
 refine ⟨XW _, ?_, ?_, ?_, ?_, XW _, XW _, ?_, XW _, XW _, XW _⟩
 ·show ((c.conds.take 20).map QA).length ≤ _
  rw [List.length_map, List.length_take]; omega
 ·intro x hx
  obtain ⟨y, _, rfl⟩ := List.mem_map.1 hx
  exact ⟨XW _, XW _⟩
 ·show ((c.ops.take 20).map opT).length ≤ _
  rw [List.length_map, List.length_take]; omega
 ·intro x hx
  obtain ⟨y, _, rfl⟩ := List.mem_map.1 hx
  exact ⟨XW _, XW _⟩
 ·show (c.q.fams.take 20).length ≤ _
  rw [List.length_take]; omega
end Go.Rt
namespace Go.Sx
open Go
mutual
def AV.fr (n : Nat) : AV → Prop
 | .int _ _ => True
 | .bool _ => True
 | .str _ => True
 | .nilp => True
 | .nilsl => True
 | .nilf => True
 | .nilm => True
 | .nili => True
 | .loc k _ _ _ _ => n ≤ k
 | .osl k _ _ _ => n ≤ k
 | .agg fs => AV.frs n fs
 | .tup fs => AV.frs n fs
 | .iface _ v => v.fr n
 | _ => False
def AV.frs (n : Nat) : List AV → Prop
 | [] => True
 | f :: fs => f.fr n ∧ AV.frs n fs
end
mutual
theorem Rel.frC {c c' : Ctx} {n : Nat} (h : ∀ k v l, n ≤ k → c.ρ k v = some l → c'.ρ k v = some l) : ∀ (av : AV) (m : Bool) (cs : List Value), av.fr n → Rel c av m cs → Rel c' av m cs
 | .int _ _, _, _, _, hr => by simpa [Rel] using hr
 | .bool _, _, _, _, hr => by simpa [Rel] using hr
 | .str _, _, _, _, hr => by simpa [Rel] using hr
 | .nilp, _, _, _, hr => by simpa [Rel] using hr
 | .nilsl, _, _, _, hr => by simpa [Rel] using hr
 | .nilf, _, _, _, hr => by simpa [Rel] using hr
 | .nilm, _, _, _, hr => by simpa [Rel] using hr
 | .nili, _, _, _, hr => by simpa [Rel] using hr
 | .loc _ _ _ _ _, _, _, hk, hr => by
   simp only [Rel] at hr ⊢
   simp only [AV.fr] at hk
   obtain ⟨b, cap, esz, hl, e⟩ := hr
   exact ⟨b, cap, esz, h _ _ _ hk hl, e⟩
 | .osl _ _ _ _, _, _, hk, hr => by
   simp only [Rel] at hr ⊢
   simp only [AV.fr] at hk
   obtain ⟨l, hl, hm⟩ := hr
   exact ⟨l, h _ _ _ hk hl, hm⟩
 | .agg fs, true, _, hk, hr => by simp only [Rel] at hr ⊢; simp only [AV.fr] at hk; exact RelF.frC h fs _ hk hr
 | .agg fs, false, _, hk, hr => by
   simp only [Rel] at hr ⊢
   simp only [AV.fr] at hk
   obtain ⟨arr, e, hf⟩ := hr
   exact ⟨arr, e, RelF.frC h fs _ hk hf⟩
 | .tup vs, false, _, hk, hr => by
   simp only [Rel] at hr ⊢
   simp only [AV.fr] at hk
   obtain ⟨arr, e, hf⟩ := hr
   exact ⟨arr, e, RelT.frC h vs _ hk hf⟩
 | .tup _, true, _, _, hr => by simp [Rel] at hr
 | .iface _ v, _, _, hk, hr => by
   simp only [Rel] at hr ⊢
   simp only [AV.fr] at hk
   obtain ⟨x, e, hx⟩ := hr
   exact ⟨x, e, Rel.frC h v _ _ hk hx⟩
 | .rp _, _, _, hk, _ => by simp [AV.fr] at hk
 | .sl _ _, _, _, hk, _ => by simp [AV.fr] at hk
 | .fn _ _ _, _, _, hk, _ => by simp [AV.fr] at hk
 | .omap _, _, _, hk, _ => by simp [AV.fr] at hk
 | .opt _ _, _, _, hk, _ => by simp [AV.fr] at hk
 | .raw _, _, _, hk, _ => by simp [AV.fr] at hk
 | .junk, _, _, hk, _ => by simp [AV.fr] at hk
theorem RelF.frC {c c' : Ctx} {n : Nat} (h : ∀ k v l, n ≤ k → c.ρ k v = some l → c'.ρ k v = some l) : ∀ (fs : List AV) (cs : List Value), AV.frs n fs → RelF c fs cs → RelF c' fs cs
 | [], _, _, hr => by simpa [RelF] using hr
 | f :: fs, _, hk, hr => by
   simp only [RelF] at hr ⊢
   simp only [AV.frs] at hk
   obtain ⟨c1, c2, e, h1, h2⟩ := hr
   exact ⟨c1, c2, e, Rel.frC h f _ _ hk.1 h1, RelF.frC h fs _ hk.2 h2⟩
theorem RelT.frC {c c' : Ctx} {n : Nat} (h : ∀ k v l, n ≤ k → c.ρ k v = some l → c'.ρ k v = some l) : ∀ (fs : List AV) (cs : List Value), AV.frs n fs → RelT c fs cs → RelT c' fs cs
 | [], _, _, hr => by simpa [RelT] using hr
 | f :: fs, _, hk, hr => by
   simp only [RelT] at hr ⊢
   simp only [AV.frs] at hk
   obtain ⟨v, r, e, h1, h2⟩ := hr
   exact ⟨v, r, e, Rel.frC h f _ _ hk.1 h1, RelT.frC h fs _ hk.2 h2⟩
end
def Globs (H H0 : Heap) : Prop := ∀ k o, H0 k = some o → H k = some o ∧ ∃ e els, o = .glob e els ∧ AV.kls 0 els
noncomputable def Ctx.lendC (c : Ctx) (H H0 : Heap) (w : World) : Ctx where
 ρ := fun k v => match H0 k with | some _ => c.ρ k v | none => none
 ro := (c.frz H 0 w).ro
theorem Ctx.lendC_low (c : Ctx) (H H0 : Heap) (w : World) : (c.frz H 0 w).low (c.lendC H H0 w) 0 := ⟨fun hk => by omega, fun hb => hb⟩
theorem FrzL.kls0 {H : Heap} {a b : List AV} (h : FrzL H 0 a b) {c : Ctx} {cs : List Value} {n : Nat} {w : World} (hs : Sim c H n w) (hr : RelT c a cs) : AV.kls 0 b := by
 have := FrzL.relT hs h hr
 exact VA (c := c.frz H 0 w) (n := 0) (fun k v _ => by show (if k < 0 then c.ρ k v else none) = none; rw [if_neg (by omega)]) _ _ this
theorem Sim.lendC {c : Ctx} {H H0 : Heap} {n : Nat} {w : World} (hs : Sim c H n w) (hG : Globs H H0) : Sim (c.lendC H H0 w) H0 n w where
 ro := fun b a hb => by
   simp only [Ctx.lendC, Ctx.frz] at hb
   split at hb
   ·rename_i a' hr; cases hb; exact hs.ro b _ hr
   ·split at hb
    ·split at hb
     ·rename_i _ _ hw; cases hb; exact ⟨_, _, hw⟩
     ·simp at hb
    ·simp at hb
 own := fun k o hk => by
   obtain ⟨hH, e, els, rfl, hkl⟩ := hG k o hk
   have ho := hs.own k _ hH
   simp only [Z9] at ho ⊢
   obtain ⟨h1, h2, arr, ds, h3, h4, h5⟩ := ho
   refine ⟨by simp only [Ctx.lendC, hk]; exact h1, h2, arr, ds, (c.frz_low H 0 w).ro h3, ?_, h5⟩
   exact RelF.low (c := c) (c' := c.lendC H H0 w) (n := 0) ⟨fun hk => by omega, fun hb => (c.frz_low H 0 w).ro hb⟩ els ds hkl h4
 sep := fun k o b hk hb => by
   obtain ⟨hH, e, els, rfl, hkl⟩ := hG k o hk
   have ho := hs.own k _ hH
   simp only [Z9] at ho
   simp only [Zw, AObj.ver, Ctx.lendC, hk, ho.1] at hb
   simp at hb
 inj := fun k k' o o' b hk hk' hb _ => by
   obtain ⟨hH, e, els, rfl, hkl⟩ := hG k o hk
   have ho := hs.own k _ hH
   simp only [Z9] at ho
   simp only [Zw, AObj.ver, Ctx.lendC, hk, ho.1] at hb
   simp at hb
 fresh := fun k hk => by
   have h0 : H0 k = none := by
     cases h : H0 k with
     | none => rfl
     | some o => have := (hG k o h).1; rw [(hs.fresh k hk).1] at this; simp at this
   exact ⟨h0, fun v => by simp only [Ctx.lendC, h0]⟩
 vers := fun k o v hk hv => by
   obtain ⟨hH, _⟩ := hG k o hk
   simp only [Ctx.lendC, hk]
   exact hs.vers k o v hH hv
structure NewRes (n : Nat) (H0 : Heap) (res : ARes) (H' : Heap) (n' : Nat) : Prop where
 nn : n ≤ n'
 low : ∀ k, k < n → H' k = H0 k
 new : ∀ k o, n ≤ k → H' k = some o → ∃ v e els, o = .arr v e els ∧ AV.frs n els
 val : match res with | .val r => r.fr n | .pan p => p.fr n
def Heap.over (n : Nat) (H H' : Heap) : Heap := fun k => if k < n then H k else H' k
theorem Zx.lend {P : Program} {f : FuncId} {args args' : List AV} {H H0 : Heap} {n : Nat} {K : ARes → Heap → Nat → Prop} (hG : Globs H H0) (hL : FrzL H 0 args args') (h : Zx P f args' H0 n K)
   (hK : ∀ res H' n', K res H' n' → NewRes n H0 res H' n') : Zx P f args H n (fun res H2 n2 => ∃ H', K res H' n2 ∧ H2 = Heap.over n H H') :=
 fun c w vs hs hr => (h (c.lendC H H0 w) w vs (hs.lendC hG) (RelT.low (c.lendC_low H H0 w) _ _ (hL.kls0 hs hr) (FrzL.relT hs hL hr))).mono fun e w' ⟨res, c', H', n', hk, hst, hm⟩ => by
   have hN := hK _ _ _ hk
   have hno : ∀ b, ¬ Owned (c.lendC H H0 w) H0 b := fun b ⟨k, o, hk, hb⟩ => by
     obtain ⟨hH, e, els, rfl, hkl⟩ := hG k o hk
     have ho := hs.own k _ hH
     simp only [Z9] at ho
     simp only [Zw, AObj.ver, Ctx.lendC, hk, ho.1] at hb
     simp at hb
   have hkeep : ∀ b, b < w.heap.size → w'.heap[b]? = w.heap[b]? := fun b hb => hst.fr.keep b hb (hno b)
   have hnew : ∀ b k o, n ≤ k → H' k = some o → Zw c' k o = some b → w.heap.size ≤ b := fun b k o _ ho hb => by
     rcases hst.new b ⟨k, o, ho, hb⟩ with h | h
     ·exact absurd h (hno b)
     ·exact h
   let c2 : Ctx := { ρ := fun k v => if k < n then c.ρ k v else c'.ρ k v, ro := c.ro }
   have hle : c.le c2 := ⟨fun {k v l} hk => by
     show (if k < n then c.ρ k v else c'.ρ k v) = some l
     rcases Nat.lt_or_ge k n with h | h
     ·rw [if_pos h]; exact hk
     ·rw [(hs.fresh k h).2 v] at hk; simp at hk, fun hb => hb⟩
   have hlo : ∀ k v, k < n → c2.ρ k v = c.ρ k v := fun k v h => if_pos h
   have hhi : ∀ k v, n ≤ k → c2.ρ k v = c'.ρ k v := fun k v h => if_neg (by omega)
   have hblo : ∀ k o, k < n → Zw c2 k o = Zw c k o := fun k o h => by unfold Zw; rw [hlo _ _ h]
   have hbhi : ∀ k o, n ≤ k → Zw c2 k o = Zw c' k o := fun k o h => by unfold Zw; rw [hhi _ _ h]
   have hfr : ∀ k v l, n ≤ k → c'.ρ k v = some l → c2.ρ k v = some l := fun k v l hk h => by rw [hhi k v hk]; exact h
   have hlt : ∀ b a, c.ro b = some a → b < w.heap.size := fun b a hb => by
     obtain ⟨ty, fr, hw⟩ := hs.ro b a hb
     rcases Nat.lt_or_ge b w.heap.size with h | h
     ·exact h
     ·rw [Array.getElem?_eq_none h] at hw; simp at hw
   have hH2 : ∀ k o, Heap.over n H H' k = some o → (k < n ∧ H k = some o) ∨ (n ≤ k ∧ H' k = some o) := fun k o hk => by
     unfold Heap.over at hk
     split at hk
     ·rename_i h; exact .inl ⟨h, hk⟩
     ·rename_i h; exact .inr ⟨by omega, hk⟩
   refine ⟨res, c2, Heap.over n H H', n', ⟨H', hk, rfl⟩, ?_, ?_⟩
   ·exact {
      le := hle
      sim := {
        ro := fun b a hb => by
          obtain ⟨ty, fr, hw⟩ := hs.ro b a hb
          exact ⟨ty, fr, by rw [hkeep b (hlt b a hb)]; exact hw⟩
        own := fun k o hk => by
          rcases hH2 k o hk with ⟨h1, h2⟩ | ⟨h1, h2⟩
          ·exact (hs.own k o h2).mono hle fun b hb => hkeep b ((hs.own k o h2).lt hb)
          ·obtain ⟨v, e, els, rfl, hf⟩ := hN.new k o h1 h2
           have ho := hst.sim.own k _ h2
           simp only [Z9] at ho ⊢
           obtain ⟨l, hl, hm⟩ := ho
           refine ⟨l, hfr _ _ _ h1 hl, ?_⟩
           cases l with
           | nil => exact hm
           | blk b cap e' =>
             obtain ⟨q1, q2, q3, arr, ty, ds, q4, q5, q6, q7⟩ := hm
             exact ⟨q1, q2, q3, arr, ty, ds, q4, q5, RelF.frC hfr _ _ hf q6, q7⟩
        sep := fun k o b hk hb => by
          rcases hH2 k o hk with ⟨h1, h2⟩ | ⟨h1, h2⟩
          ·rw [hblo k o h1] at hb; exact hs.sep k o b h2 hb
          ·rw [hbhi k o h1] at hb
           have := hnew b k o h1 h2 hb
           cases hr : c.ro b with
           | none => rfl
           | some a => have := hlt b a hr; omega
        inj := fun k1 k2 o1 o2 b g1 g2 b1 b2 => by
          rcases hH2 k1 o1 g1 with ⟨h1, h2⟩ | ⟨h1, h2⟩ <;> rcases hH2 k2 o2 g2 with ⟨h3, h4⟩ | ⟨h3, h4⟩
          ·rw [hblo _ _ h1] at b1; rw [hblo _ _ h3] at b2; exact hs.inj k1 k2 o1 o2 b h2 h4 b1 b2
          ·rw [hblo _ _ h1] at b1; rw [hbhi _ _ h3] at b2
           have := hnew b k2 o2 h3 h4 b2
           have := (hs.own k1 o1 h2).lt b1
           omega
          ·rw [hbhi _ _ h1] at b1; rw [hblo _ _ h3] at b2
           have := hnew b k1 o1 h1 h2 b1
           have := (hs.own k2 o2 h4).lt b2
           omega
          ·rw [hbhi _ _ h1] at b1; rw [hbhi _ _ h3] at b2; exact hst.sim.inj k1 k2 o1 o2 b h2 h4 b1 b2
        fresh := fun k hk => by
          have hnk : n ≤ k := Nat.le_trans hN.nn hk
          exact ⟨by show (if k < n then H k else H' k) = none; rw [if_neg (by omega)]; exact (hst.sim.fresh k hk).1, fun v => by rw [hhi k v hnk]; exact (hst.sim.fresh k hk).2 v⟩
        vers := fun k o v hk hv => by
          rcases hH2 k o hk with ⟨h1, h2⟩ | ⟨h1, h2⟩
          ·rw [hlo k v h1]; exact hs.vers k o v h2 hv
          ·rw [hhi k v h1]; exact hst.sim.vers k o v h2 hv }
      fr := { os := hst.fr.os, tape := hst.fr.tape, output := hst.fr.output, size := hst.fr.size, keep := fun b hb _ => hkeep b hb }
      new := fun b ⟨k, o, hk, hb⟩ => by
        rcases hH2 k o hk with ⟨h1, h2⟩ | ⟨h1, h2⟩
        ·rw [hblo k o h1] at hb; exact .inl ⟨k, o, h2, hb⟩
        ·rw [hbhi k o h1] at hb; exact .inr (hnew b k o h1 h2 hb) }
   ·have hv := hN.val
    cases e with
    | returned v =>
      cases res with
      | val r => exact Rel.frC hfr _ _ _ hv hm
      | pan p => exact hm.elim
    | panicked ch =>
      cases res with
      | val r => exact hm.elim
      | pan p =>
        obtain ⟨v, e1, e2⟩ := hm
        exact ⟨v, e1, Rel.frC hfr _ _ _ hv e2⟩
    | outgrown => cases res <;> exact hm.elim
theorem Ret.lendQ {P : Program} {f : FuncId} {args args' : List AV} {H H0 : Heap} {n : Nat} {r : AV} (hG : Globs H H0) (hL : FrzL H 0 args args') (hr : r.fr n) (h : Ret P f args' H0 n r H0 n) : Ret P f args H n r H n := fun c w vs hs hrel => by
 have h0 : ∀ k, n ≤ k → H0 k = none := fun k hk => by
   cases he : H0 k with
   | none => rfl
   | some o => have := (hG k o he).1; rw [(hs.fresh k hk).1] at this; simp at this
 have heq : Heap.over n H H0 = H := funext fun k => by
   unfold Heap.over
   split
   ·rfl
   ·rw [h0 k (by omega), (hs.fresh k (by omega)).1]
 refine (Zx.lend hG hL h (fun res H' n' ⟨e1, e2, e3⟩ => ?_) c w vs hs hrel).mono fun e w' ⟨res, c', H', n', ⟨H1, ⟨e1, e2, e3⟩, e4⟩, hst, hm⟩ => ⟨res, c', H', n', ⟨e1, by rw [e4, e2, heq], e3⟩, hst, hm⟩
 subst e1; subst e2; subst e3
 exact ⟨Nat.le_refl _, fun _ _ => rfl, fun k o hk ho => by rw [h0 k hk] at ho; simp at ho, hr⟩
theorem Globs.none (H : Heap) : Globs H fun _ => none := fun k o h => by simp at h
def AV.nk : AV → Prop
 | .int _ _ => True
 | .bool _ => True
 | .str _ => True
 | .nilp => True
 | .nilsl => True
 | .nilf => True
 | .nilm => True
 | .nili => True
 | _ => False
theorem AV.nk.kl {a : AV} (h : a.nk) (n : Nat) : a.kl n := by cases a <;> first | trivial | exact h.elim
theorem AV.nk.fr {a : AV} (h : a.nk) (n : Nat) : a.fr n := by cases a <;> first | trivial | exact h.elim
mutual
inductive Own (H : Heap) : AV → AV → List Nat → Prop
 | nk {a : AV} : a.nk → Own H a a []
 | nilsl {e : Nat} : Own H .nilsl (.sl e []) []
 | osl {k ver len e : Nat} {els ys : List AV} {ks : List Nat} : H k = some (.arr ver e els) → len ≤ els.length → OwnL H (els.take len) ys ks → Own H (.osl k ver 0 len) (.sl e ys) (k :: ks)
 | agg {fs gs : List AV} {ks : List Nat} : OwnL H fs gs ks → Own H (.agg fs) (.agg gs) ks
 | tup {fs gs : List AV} {ks : List Nat} : OwnL H fs gs ks → Own H (.tup fs) (.tup gs) ks
inductive OwnL (H : Heap) : List AV → List AV → List Nat → Prop
 | nil : OwnL H [] [] []
 | cons {a b : AV} {l m : List AV} {ks js : List Nat} : Own H a b ks → OwnL H l m js → OwnL H (a :: l) (b :: m) (ks ++ js)
end
mutual
theorem Own.frz {H : Heap} {n : Nat} : ∀ {a b : AV} {ks : List Nat}, Own H a b ks → (∀ k ∈ ks, n ≤ k) → Frz H n a b
 | _, _, _, .nk h, _ => .kl (h.kl n)
 | _, _, _, .nilsl, _ => .nilsl
 | _, _, _, .osl h1 h2 h3, hk => .osl h1 (hk _ (by simp)) (by omega) (by rw [List.drop_zero]; exact OwnL.frz h3 fun k h => hk k (by simp [h]))
 | _, _, _, .agg h, hk => .agg (OwnL.frz h hk)
 | _, _, _, .tup h, hk => .tup (OwnL.frz h hk)
theorem OwnL.frz {H : Heap} {n : Nat} : ∀ {a b : List AV} {ks : List Nat}, OwnL H a b ks → (∀ k ∈ ks, n ≤ k) → FrzL H n a b
 | _, _, _, .nil, _ => .nil
 | _, _, _, .cons h1 h2, hk => .cons (Own.frz h1 fun k h => hk k (by simp [h])) (OwnL.frz h2 fun k h => hk k (by simp [h]))
end
mutual
theorem Own.frame {H H' : Heap} : ∀ {a b : AV} {ks : List Nat}, Own H a b ks → (∀ k ∈ ks, H' k = H k) → Own H' a b ks
 | _, _, _, .nk h, _ => .nk h
 | _, _, _, .nilsl, _ => .nilsl
 | _, _, _, .osl h1 h2 h3, hk => .osl ((hk _ (by simp)).trans h1) h2 (OwnL.frame h3 fun k h => hk k (by simp [h]))
 | _, _, _, .agg h, hk => .agg (OwnL.frame h hk)
 | _, _, _, .tup h, hk => .tup (OwnL.frame h hk)
theorem OwnL.frame {H H' : Heap} : ∀ {a b : List AV} {ks : List Nat}, OwnL H a b ks → (∀ k ∈ ks, H' k = H k) → OwnL H' a b ks
 | _, _, _, .nil, _ => .nil
 | _, _, _, .cons h1 h2, hk => .cons (Own.frame h1 fun k h => hk k (by simp [h])) (OwnL.frame h2 fun k h => hk k (by simp [h]))
end
mutual
theorem Own.fr {H : Heap} {n : Nat} : ∀ {a b : AV} {ks : List Nat}, Own H a b ks → (∀ k ∈ ks, n ≤ k) → a.fr n
 | _, _, _, .nk h, _ => h.fr n
 | _, _, _, .nilsl, _ => trivial
 | _, _, _, .osl _ _ _, hk => hk _ (by simp)
 | _, _, _, .agg h, hk => OwnL.fr h hk
 | _, _, _, .tup h, hk => OwnL.fr h hk
theorem OwnL.fr {H : Heap} {n : Nat} : ∀ {a b : List AV} {ks : List Nat}, OwnL H a b ks → (∀ k ∈ ks, n ≤ k) → AV.frs n a
 | _, _, _, .nil, _ => trivial
 | _, _, _, .cons h1 h2, hk => ⟨Own.fr h1 fun k h => hk k (by simp [h]), OwnL.fr h2 fun k h => hk k (by simp [h])⟩
end
mutual
theorem Own.sz {H : Heap} : ∀ {a b : AV} {ks : List Nat}, Own H a b ks → a.sz = b.sz
 | _, _, _, .nk _ => rfl
 | _, _, _, .nilsl => rfl
 | _, _, _, .osl _ _ _ => rfl
 | _, _, _, .agg h => by simp only [AV.sz]; exact OwnL.szs h
 | _, _, _, .tup _ => rfl
theorem OwnL.szs {H : Heap} : ∀ {a b : List AV} {ks : List Nat}, OwnL H a b ks → AV.szs a = AV.szs b
 | _, _, _, .nil => rfl
 | _, _, _, .cons h1 h2 => by simp only [AV.szs]; rw [Own.sz h1, OwnL.szs h2]
end
theorem OwnL.len {H : Heap} : ∀ {a b : List AV} {ks : List Nat}, OwnL H a b ks → a.length = b.length
 | _, _, _, .nil => rfl
 | _, _, _, .cons _ h => by simp [h.len]
theorem OwnL.append {H : Heap} : ∀ {a b : List AV} {ks : List Nat}, OwnL H a b ks → ∀ {c d : List AV} {js : List Nat}, OwnL H c d js → OwnL H (a ++ c) (b ++ d) (ks ++ js)
 | _, _, _, .nil, _, _, _, h => h
 | _, _, _, .cons h1 h2, _, _, _, h => by rw [List.append_assoc]; exact .cons h1 (OwnL.append h2 h)
theorem OwnL.one {H : Heap} {a b : AV} {ks : List Nat} (h : Own H a b ks) : OwnL H [a] [b] ks := by
 have := OwnL.cons h (.nil (H := H)); simpa using this
theorem OwnL.snoc {H : Heap} {l m : List AV} {a b : AV} {ks js : List Nat} (h : OwnL H l m ks) (h' : Own H a b js) : OwnL H (l ++ [a]) (m ++ [b]) (ks ++ js) := h.append (.one h')
theorem OwnL.nks {H : Heap} : ∀ (l : List AV), (∀ x ∈ l, x.nk) → OwnL H l l []
 | [], _ => .nil
 | a :: l, h => .cons (.nk (h a (by simp))) (OwnL.nks l fun x hx => h x (by simp [hx]))
theorem OwnL.nth {H : Heap} : ∀ {a b : List AV} {ks : List Nat}, OwnL H a b ks → ∀ {i : Nat}, i < a.length → ∃ ks1 ks2 ks3, ks = ks1 ++ (ks2 ++ ks3) ∧ OwnL H (a.take i) (b.take i) ks1 ∧ Own H (nth a i) (nth b i) ks2 ∧ OwnL H (a.drop (i + 1)) (b.drop (i + 1)) ks3
 | _, _, _, .nil, i, hi => by simp at hi
 | _, _, _, .cons (ks := ks) (js := js) h1 h2, 0, _ => ⟨[], ks, js, rfl, .nil, h1, h2⟩
 | _, _, _, .cons (a := a) (b := b) (l := l) (m := m) (ks := ks) (js := js) h1 h2, i + 1, hi => by
   obtain ⟨k1, k2, k3, e, q1, q2, q3⟩ := OwnL.nth h2 (i := i) (by simpa using hi)
   exact ⟨ks ++ k1, k2, k3, by rw [e, List.append_assoc], .cons h1 q1, q2, q3⟩
mutual
theorem Own.objs {H : Heap} {n : Nat} : ∀ {a b : AV} {ks : List Nat}, Own H a b ks → (∀ k ∈ ks, n ≤ k) → ∀ k ∈ ks, ∃ v e els len, H k = some (.arr v e els) ∧ len ≤ els.length ∧ AV.frs n (els.take len)
 | _, _, _, .nk h, _, k, hk => by simp at hk
 | _, _, _, .nilsl, _, k, hk => by simp at hk
 | _, _, _, .osl (len := len) h1 h2 h3, hn, k, hk => by
   rcases List.mem_cons.1 hk with rfl | hk
   ·exact ⟨_, _, _, len, h1, h2, OwnL.fr h3 fun k h => hn k (by simp [h])⟩
   ·exact OwnL.objs h3 (fun k h => hn k (by simp [h])) k hk
 | _, _, _, .agg h, hn, k, hk => OwnL.objs h hn k hk
 | _, _, _, .tup h, hn, k, hk => OwnL.objs h hn k hk
theorem OwnL.objs {H : Heap} {n : Nat} : ∀ {a b : List AV} {ks : List Nat}, OwnL H a b ks → (∀ k ∈ ks, n ≤ k) → ∀ k ∈ ks, ∃ v e els len, H k = some (.arr v e els) ∧ len ≤ els.length ∧ AV.frs n (els.take len)
 | _, _, _, .nil, _, k, hk => by simp at hk
 | _, _, _, .cons h1 h2, hn, k, hk => by
   rcases List.mem_append.1 hk with h | h
   ·exact Own.objs h1 (fun k h => hn k (by simp [h])) k h
   ·exact OwnL.objs h2 (fun k h => hn k (by simp [h])) k h
end
structure Mine (H : Heap) (n : Nat) (b : AV) (a : AV) (ks : List Nat) (H' : Heap) (n' : Nat) : Prop where
 own : Own H' a b ks
 nd : ks.Nodup
 lo : ∀ k ∈ ks, n ≤ k ∧ k < n'
 low : ∀ k, k < n → H' k = H k
 nn : n ≤ n'
def OAns (H : Heap) (n : Nat) (b : AV) (res : ARes) (H' : Heap) (n' : Nat) : Prop := ∃ a ks, res = .val a ∧ Mine H n b a ks H' n'
theorem OAns.fin {P : Program} {f : FuncId} {args : List AV} {H : Heap} {n : Nat} {b : AV} (h : Zx P f args H n (OAns H n b)) : Ret P f args H n b H n :=
 Ret.fin (h.mono fun res H1 n1 ⟨a, ks, hr, hm⟩ => ⟨a, hr, hm.low, hm.own.frz fun k hk => (hm.lo k hk).1⟩)
end Go.Sx
namespace Go.Rt
open Go Go.Sx
structure Pile (n0 : Nat) (az bs : List AV) (ks : List Nat) (H : Heap) (n : Nat) : Prop where
 own : OwnL H az bs ks
 nd : ks.Nodup
 lo : ∀ k ∈ ks, n0 ≤ k ∧ k < n
theorem Pile.nil (n0 : Nat) (H : Heap) (n : Nat) : Pile n0 [] [] [] H n := ⟨.nil, List.nodup_nil, fun k h => by simp at h⟩
theorem Pile.on {n0 n n2 : Nat} {az bs : List AV} {ks : List Nat} {H H2 : Heap} (h : Pile n0 az bs ks H n) (hH : ∀ k, n0 ≤ k → k < n → H2 k = H k) (hn : n ≤ n2) : Pile n0 az bs ks H2 n2 :=
 ⟨h.own.frame fun k hk => hH k (h.lo k hk).1 (h.lo k hk).2, h.nd, fun k hk => ⟨(h.lo k hk).1, Nat.lt_of_lt_of_le (h.lo k hk).2 hn⟩⟩
theorem Pile.add {n0 n n2 : Nat} {az bs : List AV} {ks : List Nat} {H H2 : Heap} {a b : AV} {js : List Nat} (h : Pile n0 az bs ks H n) (hH : ∀ k, n0 ≤ k → k < n → H2 k = H k) (ho : Own H2 a b js) (hnd : js.Nodup) (hlo : ∀ k ∈ js, n ≤ k ∧ k < n2) (h0 : n0 ≤ n) (hn : n ≤ n2) : Pile n0 (az ++ [a]) (bs ++ [b]) (ks ++ js) H2 n2 where
 own := (h.own.frame fun k hk => hH k (h.lo k hk).1 (h.lo k hk).2).snoc ho
 nd := List.nodup_append.2 ⟨h.nd, hnd, fun a ha b hb e => by have := (h.lo a ha).2; have := (hlo b hb).1; omega⟩
 lo := fun k hk => by
   rcases List.mem_append.1 hk with h1 | h1
   ·have := h.lo k h1; omega
   ·have := hlo k h1; omega
theorem Pile.add1 {n0 n : Nat} {az bs : List AV} {ks : List Nat} {H : Heap} {a b : AV} (h : Pile n0 az bs ks H n) (ho : Own H a b [n]) (h0 : n0 ≤ n) : Pile n0 (az ++ [a]) (bs ++ [b]) (ks ++ [n]) H (n + 1) :=
 h.add (fun _ _ _ => rfl) ho (List.nodup_cons.2 ⟨by simp, List.nodup_nil⟩) (fun k hk => by simp at hk; omega) h0 (by omega)
theorem Pile.list {kl n ver e len : Nat} {els ys : List AV} {ks : List Nat} {H : Heap} (h : Pile (kl + 1) (els.take len) ys ks H n) (hk : H kl = some (.arr ver e els)) (hl : len ≤ els.length) (hn : kl < n) : Own H (.osl kl ver 0 len) (.sl e ys) (kl :: ks) ∧ (kl :: ks).Nodup ∧ ∀ k ∈ kl :: ks, kl ≤ k ∧ k < n :=
 ⟨.osl hk hl h.own, List.nodup_cons.2 ⟨fun hm => by have := (h.lo _ hm).1; omega, h.nd⟩, fun k hk => by
   rcases List.mem_cons.1 hk with rfl | hk
   ·exact ⟨Nat.le_refl _, hn⟩
   ·have := h.lo k hk; omega⟩
theorem Pile.addList {n0 kl n ver e len : Nat} {az bs els more ys : List AV} {ks1 ks2 : List Nat} {H H2 : Heap} (h1 : Pile n0 az bs ks1 H kl) (h2 : Pile (kl + 1) els ys ks2 H n) (hk : H2 kl = some (.arr ver e (els ++ more))) (hl : len = els.length)
   (hH : ∀ k, n0 ≤ k → k ≠ kl → k < n → H2 k = H k) (h0 : n0 ≤ kl) (hn : kl < n) : Pile n0 (az ++ [.osl kl ver 0 len]) (bs ++ [.sl e ys]) (ks1 ++ (kl :: ks2)) H2 n := by
 subst hl
 have h3 : Pile (kl + 1) ((els ++ more).take els.length) ys ks2 H2 n := by
   rw [List.take_left]; exact h2.on (fun k a b => hH k (by omega) (by omega) b) (Nat.le_refl _)
 obtain ⟨g1, g2, g3⟩ := h3.list hk (by simp) hn
 exact h1.add (fun k a b => hH k a (by omega) (by omega)) g1 g2 g3 h0 (by omega)
def marks : List UInt8 := [201, 202, 203] ++ List.replicate 70 206
theorem nks_bytes (l : List UInt8) : ∀ x ∈ l.map Zo, x.nk := fun x hx => by
 obtain ⟨b, _, rfl⟩ := List.mem_map.1 hx; trivial
theorem own_bytes {H : Heap} {k ver len : Nat} {l : List UInt8} (h : H k = some (.arr ver 1 (l.map Zo))) (hl : len ≤ l.length) : Own H (.osl k ver 0 len) (bys (l.take len)) [k] :=
 .osl h (by simpa using hl) (by rw [← List.map_take]; exact OwnL.nks _ (nks_bytes _))
theorem Wn {H : Heap} {k : Nat} {m x : List UInt8} {ver : Nat} (h : H k = some (.arr ver 1 ((m ++ x).map Zo))) : Own H (.osl k ver 0 m.length) (bys m) [k] := by
 have := own_bytes (len := m.length) h (by simp)
 rwa [List.take_left] at this
end Go.Rt
namespace Go.Proofs.YtifnhpmeoogedaaGreatDoor
open Go Go.Sx Go.Rt Go.Proofs Tryz
theorem YS (b : List UInt8) (k : Int) (hk0 : 0 ≤ k) (hk1 : k ≤ 1048576) (H : Heap) (n : Nat) : Ret prog 25 [bys b, .int .i64 k] H n (.osl n 72 0 (b.take k.toNat).length) (H.put n (some (.arr 72 1 ((b.take k.toNat ++ marks).map Zo)))) (n + 1) := by
 generalize hw : b.take k.toNat = w
 refine Zc func25 rfl ntmps25 (congrArg Array.toList results25) (by simp) ?_
 simp only [go_sem]
 refine Za zs [0, 1] fun K hK => ?_
 try simp only [go_sem, seval]
 apply hK; clear hK K
 refine YB [0] (fun T' H' n' => T' = tl [(0, bys w)] ∧ H' = H ∧ n' = n) ?_ ?_
 ·skip
  refine Za zs [0, 1, 10] fun K hK => ?_
  try simp only [go_sem, seval, List.length_map]
  apply hK; clear hK K
  refine Zf ?_ ?_ <;> intro hb
  ·skip
   refine Zl zs [0] fun K hK => ?_
   try simp only [go_sem, seval, List.length_map]
   repeat (first | refine peel ?_ | refine ⟨by exact ⟨by simp, by simpa using hk0, by simp at hb ⊢; omega, fun m h => h.elim⟩, ?_⟩)
   apply hK; clear hK K
   try simp only [go_sem, seval]
   (simp [List.map_take, ← hw]; done)
  refine Zd ?_
  try simp only [go_sem, seval]
  (rw [← hw, List.take_of_length_le (by have := of_decide_eq_false hb; omega)])
 rintro T1 H1 n1 ⟨rfl, rfl, rfl⟩
 have hm : w.length ≤ 1048576 := by rw [← hw]; simp; omega
 refine Za zs [0, 5] fun K hK => ?_
 try simp only [go_sem, seval]
 apply hK; clear hK K
 refine Yy 5 1 rfl ?_
 simp only [go_sem, seval]
 refine Za zs [0, 5] fun K hK => ?_
 try simp only [go_sem, seval, List.length_map]
 repeat (first | refine peel ?_ | refine ⟨by exact ⟨.inr trivial, by omega, by omega⟩, ?_⟩)
 apply hK; clear hK K
 refine Za zs [0, 5] fun K hK => ?_
 try simp only [go_sem, seval, List.length_map]
 repeat (first | refine peel ?_ | refine ⟨by exact ⟨by simp; try omega, .inr trivial, by omega, by omega⟩, ?_⟩)
 apply hK; clear hK K
 refine Zb fun K1 hK1 => ?_
 refine Za zs [0, 5, 6] fun K hK => ?_
 try simp only [go_sem, seval]
 apply hK; clear hK K
 refine Zk ?_
 refine Zy (fun T' H' n' => ∃ (i : Nat), i ≤ 70 ∧ T' = tl [(0, bys w), (5, .osl n1 (2 + i) 0 (w.length + 3 + i)), (6, .int .i64 i)] ∧ H' = H1.put n1 (some (.arr (2 + i) 1 ((w ++ [201, 202, 203] ++ List.replicate i 206).map Zo))) ∧ n' = n1 + 1) (fun T' _ _ => 70 - iv (T' 6)) ?_ ?_
 ·skip
  exact ⟨0, by omega, rfl, by rw [List.take_of_length_le (by simp), List.map_append, List.map_append]; simp; rfl, rfl⟩
 intro T1 H1 n1
 rintro ⟨i, hi, rfl, rfl, rfl⟩
 refine Zb fun K2 hK2 => ?_
 refine Za zs [0, 5, 6, 21] fun K hK => ?_
 try simp only [go_sem, seval]
 apply hK; clear hK K
 refine Zf ?_ ?_ <;> intro hb
 ·skip
  have hlt : i < 70 := by have := of_decide_eq_true hb; omega
  refine Zd ?_
  try simp only [go_sem, seval]
  apply hK2
  clear hK2 K2
  refine Zb fun K3 hK3 => ?_
  refine Zk ?_
  refine Zl zs [0, 5, 6] fun K hK => ?_
  try simp only [go_sem, seval, List.length_map]
  repeat (first | refine peel ?_ | refine ⟨by exact ⟨by simp; try omega, .inr trivial, by omega, by omega⟩, ?_⟩)
  apply hK; clear hK K
  try simp only [go_sem, seval]
  apply hK3
  clear hK3 K3
  refine Zl zs [0, 5, 6] fun K hK => ?_
  try simp only [go_sem, seval]
  apply hK; clear hK K
  try simp only [go_sem, seval]
  refine ⟨⟨i + 1, by omega, by rw [w1 (by omega)]; rfl, ?_⟩, by rw [w1 (by omega)]; simp; omega⟩
  rw [List.take_of_length_le (by simp; omega), List.replicate_succ', ← List.append_assoc, List.map_append (l₂ := [206])]; rfl
 have hi7 : i = 70 := by have := of_decide_eq_false hb; omega
 subst hi7
 refine Zz ?_
 try simp only [go_sem, seval]
 apply hK1
 refine Za zs [4] fun K hK => ?_
 try simp only [go_sem, seval, List.length_map, Option.getD_some, Option.getD_none, Int.toNat_natCast]
 repeat (first | refine peel ?_ | refine ⟨by exact ⟨by omega, by omega, fun m h => h.elim⟩, ?_⟩)
 apply hK; clear hK K
 refine Ze ?_
 try simp only [go_sem, seval]
 exact ⟨by rw [Nat.sub_zero], by rw [List.append_assoc]; rfl⟩
end Go.Proofs.YtifnhpmeoogedaaGreatDoor
namespace Go.Rt
open Go Go.Sx
def cmdX (c : CmdE) (whr : List UInt8) (row conds ops frm to fams pre token : AV) : AV :=
 .agg [.int .i64 c.kind, .int .i64 c.client, .int .i64 c.serial, row, conds, ops, .int .i64 c.n, .agg [frm, to, fams, pre, .int .i64 c.q.time, .int .i64 c.q.n, .int .i64 c.q.rows, .bool c.q.rev, .str whr, token]]
theorem own_cmdX {H : Heap} (c : CmdE) (whr : List UInt8) {r d o f t m p k r' d' o' f' t' m' p' k' : AV} {ks : List Nat} (h : OwnL H [r, d, o, f, t, p, k, m] [r', d', o', f', t', p', k', m'] ks) :
   ∃ ks', ks'.Perm ks ∧ Own H (cmdX c whr r d o f t m p k) (cmdX c whr r' d' o' f' t' m' p' k') ks' := by
 cases h with | cons h1 h =>
 cases h with | cons h2 h =>
 cases h with | cons h3 h =>
 cases h with | cons h4 h =>
 cases h with | cons h5 h =>
 cases h with | cons h6 h =>
 cases h with | cons h7 h =>
 cases h with | cons h8 h =>
 cases h with | nil =>
 refine ⟨_, ?_, .agg (.cons (.nk trivial) (.cons (.nk trivial) (.cons (.nk trivial) (.cons h1 (.cons h2 (.cons h3 (.cons (.nk trivial) (.cons (.agg (.cons h4 (.cons h5 (.cons h8 (.cons h6 (.cons (.nk trivial) (.cons (.nk trivial) (.cons (.nk trivial) (.cons (.nk trivial) (.cons (.nk trivial) (.cons h7 .nil))))))))))) .nil))))))))⟩
 refine List.perm_iff_count.2 fun a => ?_
 simp only [List.count_append, List.count_nil]
 omega
theorem own_cond {H : Heap} {k1 k2 v1 v2 : Nat} {x : YG} {y1 y2 : List UInt8} (h1 : H k1 = some (.arr v1 1 ((x.qual.take 5000 ++ y1).map Zo))) (h2 : H k2 = some (.arr v2 1 ((x.value.take 5000 ++ y2).map Zo))) :
   Own H (.agg [.int .i64 x.kind, .int .i64 x.fam, .osl k1 v1 0 (x.qual.take 5000).length, .osl k2 v2 0 (x.value.take 5000).length]) (Zt (QA x)) [k1, k2] :=
 .agg (.cons (ks := []) (.nk trivial) (.cons (ks := []) (.nk trivial) (.cons (ks := [k1]) (Wn h1) (.cons (ks := [k2]) (js := []) (Wn h2) .nil))))
theorem own_op {H : Heap} {k1 k2 v1 v2 : Nat} {x : OpE} {y1 y2 : List UInt8} (h1 : H k1 = some (.arr v1 1 ((x.qual.take 5000 ++ y1).map Zo))) (h2 : H k2 = some (.arr v2 1 ((x.value.take 5000 ++ y2).map Zo))) :
   Own H (.agg [.int .i64 x.kind, .int .i64 x.fam, .osl k1 v1 0 (x.qual.take 5000).length, .int .i64 x.ts, .osl k2 v2 0 (x.value.take 5000).length, .int .i64 x.delta]) (opAV (opT x)) [k1, k2] :=
 .agg (.cons (ks := []) (.nk trivial) (.cons (ks := []) (.nk trivial) (.cons (ks := [k1]) (Wn h1) (.cons (ks := []) (.nk trivial) (.cons (ks := [k2]) (js := []) (Wn h2) (.cons (ks := []) (js := []) (.nk trivial) .nil))))))
theorem cmd_end {H0 H : Heap} {n0 n : Nat} {c : CmdE} {whr : List UInt8} {r d o f t m p k r' d' o' f' t' m' p' k' R : AV} {ks : List Nat} (hp : Pile (n0 + 2) [r, d, o, f, t, p, k, m] [r', d', o', f', t', p', k', m'] ks H n) (hlow : ∀ j, j < n0 → H j = H0 j) (hn : n0 ≤ n)
   (hR : R = cmdX c whr r' d' o' f' t' m' p' k') : OAns H0 n0 R (.val (cmdX c whr r d o f t m p k)) H n := by
 obtain ⟨ks', hpm, ho⟩ := own_cmdX c whr hp.own
 exact ⟨_, ks', rfl, hR ▸ ho, hpm.nodup_iff.2 hp.nd, fun j hj => by have := hp.lo j (hpm.mem_iff.1 hj); omega, hlow, hn⟩
def CmdAns (H0 : Heap) (n0 : Nat) (c : CmdE) (res : ARes) (H : Heap) (n : Nat) : Prop := ∃ kr vr lr kc vc lc ko vo lo kf vf lf kt vt lt kp vp lp kk vk lk km vm lm ks,
 res = .val (cmdX c c.q.whr (.osl kr vr 0 lr) (.osl kc vc 0 lc) (.osl ko vo 0 lo) (.osl kf vf 0 lf) (.osl kt vt 0 lt) (.osl km vm 0 lm) (.osl kp vp 0 lp) (.osl kk vk 0 lk)) ∧
 Pile (n0 + 2) [.osl kr vr 0 lr, .osl kc vc 0 lc, .osl ko vo 0 lo, .osl kf vf 0 lf, .osl kt vt 0 lt, .osl kp vp 0 lp, .osl kk vk 0 lk, .osl km vm 0 lm] [bys c.row, .sl 4 (c.conds.map Zt), .sl 6 (c.ops.map opAV), bys c.q.frm, bys c.q.to, bys c.q.pre, bys c.q.token, Zr c.q.fams] ks H n ∧
 (∀ j, j < n0 → H j = H0 j) ∧ n0 ≤ n
theorem CmdAns.oans {H0 : Heap} {n0 : Nat} {c : CmdE} {res : ARes} {H : Heap} {n : Nat} (h : CmdAns H0 n0 c res H n) : OAns H0 n0 (Zh c) res H n := by
 obtain ⟨kr, vr, lr, kc, vc, lc, ko, vo, lo, kf, vf, lf, kt, vt, lt, kp, vp, lp, kk, vk, lk, km, vm, lm, ks, rfl, hp, hlow, hn⟩ := h
 exact cmd_end (c := c) (whr := c.q.whr) hp hlow hn rfl
end Go.Rt