/- Own layer: the walk through the document's bytes of a command. Of the program; no condition. -/
import Derived.Test.YtifnhpmeoogedaaGreatDoorPJ
import Derived.Test.YtifnhpmeoogedaaGreatDoorPI
import Derived.Test.YtifnhpmeoogedaaGreatDoorPH
set_option linter.unusedSimpArgs false
set_option linter.unusedVariables false
namespace Go.Proofs.YtifnhpmeoogedaaGreatDoor
open Go Go.Sx Go.Rt Go.Proofs
set_option maxRecDepth 100000 in
set_option maxHeartbeats 6400000 in
theorem c_ref14_lay (c : CmdE) (hc : c.fits) (h1 : 1 ≤ c.kind) (h7 : c.kind ≤ 7) (H : Heap) (n : Nat) : Ret Tryz.prog 63 [cmdAV c] H n (bys (cmdB c)) H n := by
  have hsz := qryAV_sz c.q
  have haq : (qryAV c.q).isAgg = true := rfl
  have hmq : (qryAV c.q).memOK = true := rfl
  have huc : u64 (c.conds.length : Int) = c.conds.length := u64_nat _ (by have := hc.conds; omega)
  have huo : u64 (c.ops.length : Int) = c.ops.length := u64_nat _ (by have := hc.ops; omega)
  have huf : u64 (c.q.fams.length : Int) = c.q.fams.length := u64_nat _ (by have := hc.fams; omega)
  have r1 : (0 : Nat) = 0 := rfl
  have r6 := r1
  have rB := r1
  refine Ret.fin ?_
  refine acalls_of_awp Tryz.func63 rfl Tryz.ntmps63 (congrArg Array.toList Tryz.results63) (by simp) ?_
  simp only [go_sem]
  refine awp_reg zs [1] fun K hK => ?_
  try simp only [go_sem, seval, cmdAV, hsz, bys]
  repeat (first | (refine And.intro ?_ ?_; · first | exact ⟨rfl, by simp [AV.sz, AV.memOK]⟩ | exact ⟨by simp, .inr trivial, by have := hS.len; omega, by have := hS.len; omega⟩ | exact ⟨by simp, trivial, by have := hS.len; omega, by have := hS.len; omega⟩) | refine peel ?_)
  refine hK _ _ _ ?_; clear hK K
  refine awp_reg zo [1, 3] fun K hK => ?_
  try simp only [go_sem, seval, byteI_wrap]
  repeat (first | (refine And.intro ?_ ?_; · first | exact ⟨rfl, by simp [AV.sz, AV.memOK]⟩ | exact ⟨by simp, .inr trivial, by have := hS.len; omega, by have := hS.len; omega⟩ | exact ⟨by simp, trivial, by have := hS.len; omega, by have := hS.len; omega⟩) | refine peel ?_)
  refine hK _ _ _ ?_; clear hK K
  refine awp_seq_k fun K1 hK1 => ?_
  refine awp_genT (fun T' H' n' => ∃ ver bs, bs = [byteI c.kind] ∧ T' = tl [(1, .loc n 0 0 0 []), (3, .osl (n + 1) ver 0 bs.length)] ∧ LS H n [(n, .arr 0 17 [cmdAV c])] (n + 1) ver (1) bs H' n') ⟨_, [byteI c.kind], rfl, rfl, by refine ⟨by simp [Heap.put]; rfl, fun p hp => ?_, fun k hk => ?_, by omega, by omega, by simp⟩; { rw [List.mem_singleton.1 hp]; exact ⟨by simp [Heap.put, cmdAV, bys], by simp, by simp; try omega⟩ }; { simp only [Heap.put_get]; repeat rw [if_neg (by omega)] }⟩ ?_
  rintro T1 H1 n1 ⟨ver, bs, hbs, rfl, hS⟩
  have r1 := hS.get n (.arr 0 17 [cmdAV c]) (by simp); have rB := hS.buf
  refine awp_reg zs [1, 3, 16] fun K hK => ?_
  try simp only [go_sem, seval, cmdAV, r1, bys]
  repeat (first | (refine And.intro ?_ ?_; · first | exact ⟨rfl, by simp [AV.sz, AV.memOK]⟩ | exact ⟨by simp, .inr trivial, by have := hS.len; omega, by have := hS.len; omega⟩ | exact ⟨by simp, trivial, by have := hS.len; omega, by have := hS.len; omega⟩) | refine peel ?_)
  refine hK _ _ _ ?_; clear hK K
  refine awp_cnd (fun hb => ?_) (fun hb => ?_)
  ·skip
   have hk3 : c.kind < 3 := of_decide_eq_true hb
   have hfin : bs = cmdB c := by rw [hbs, cmdB_eq h1 h7]; have : c.kind = 1 ∨ c.kind = 2 := (by omega); rcases this with h | h <;> simp [hdrB, h, kClient, kFree, kOps, kLeast, kQuery]
   refine awp_reg zs [2] fun K hK => ?_
   try simp only [go_sem, seval]
   repeat (first | (refine And.intro ?_ ?_; · first | exact ⟨rfl, by simp [AV.sz, AV.memOK]⟩ | exact ⟨by simp, .inr trivial, by have := hS.len; omega, by have := hS.len; omega⟩ | exact ⟨by simp, trivial, by have := hS.len; omega, by have := hS.len; omega⟩) | refine peel ?_)
   refine hK _ _ _ ?_; clear hK K
   refine awp_ret ?_
   try simp only [go_sem, seval]
   refine ⟨_, rfl, hS.low, .osl hS.buf (by omega) (by simp) ?_⟩
   rw [List.drop_zero, List.take_of_length_le (by simp), hfin]
   exact frzL_kl _ (kls0_bytes _ _)
  ·skip
   have hk3 : ¬ c.kind < 3 := of_decide_eq_false hb
   have hcf : (kClient c.kind || kFree c.kind) = true := by simp [kClient, kFree]; omega
   refine awp_skip ?_
   try simp only [go_sem, seval]
   refine hK1 _ _ _ ?_
   first | clear hK1 K1 | skip
   refine awp_reg zs [1, 3] fun K hK => ?_
   try simp only [go_sem, seval, cmdAV, r1, bys]
   repeat (first | (refine And.intro ?_ ?_; · first | exact ⟨rfl, by simp [AV.sz, AV.memOK]⟩ | exact ⟨by simp, .inr trivial, by have := hS.len; omega, by have := hS.len; omega⟩ | exact ⟨by simp, trivial, by have := hS.len; omega, by have := hS.len; omega⟩) | refine peel ?_)
   refine callK_use Tryz.func88 rfl rfl rfl ((c_ref14_add hS.buf (c.client) (by have := hS.len; have := hc.row; have := hc.frm; have := hc.to; have := hc.pre; have := hc.whr; have := hc.token; have := hc.conds; have := hc.ops; have := hc.fams; omega))) ?_
   try simp only [go_sem, seval]
   repeat (first | (refine And.intro ?_ ?_; · first | exact ⟨rfl, by simp [AV.sz, AV.memOK]⟩ | exact ⟨by simp, .inr trivial, by have := hS.len; omega, by have := hS.len; omega⟩ | exact ⟨by simp, trivial, by have := hS.len; omega, by have := hS.len; omega⟩) | refine peel ?_)
   refine hK _ _ _ ?_; clear hK K
   refine awp_genT (fun T' H' n' => ∃ ver bs, bs = [byteI c.kind] ++ uintB (u64 c.client) ∧ T' = tl [(1, .loc n 0 0 0 []), (3, .osl (n + 1) ver 0 bs.length)] ∧ LS H n [(n, .arr 0 17 [cmdAV c])] (n + 1) ver (11) bs H' n') ⟨_, bs ++ uintB (u64 c.client), by rw [hbs], rfl, ((hS.put (hS.lu (c.client))).up (by have := hc.row; have := hc.frm; have := hc.to; have := hc.pre; have := hc.whr; have := hc.token; have := hc.conds; have := hc.ops; have := hc.fams; omega))⟩ ?_
   rintro T1 H1 n1 ⟨ver, bs, hbs, rfl, hS⟩
   have r1 := hS.get n (.arr 0 17 [cmdAV c]) (by simp); have rB := hS.buf
   refine awp_reg zs [1, 3] fun K hK => ?_
   try simp only [go_sem, seval, cmdAV, r1, bys]
   repeat (first | (refine And.intro ?_ ?_; · first | exact ⟨rfl, by simp [AV.sz, AV.memOK]⟩ | exact ⟨by simp, .inr trivial, by have := hS.len; omega, by have := hS.len; omega⟩ | exact ⟨by simp, trivial, by have := hS.len; omega, by have := hS.len; omega⟩) | refine peel ?_)
   refine callK_use Tryz.func88 rfl rfl rfl ((c_ref14_add hS.buf (c.serial) (by have := hS.len; have := hc.row; have := hc.frm; have := hc.to; have := hc.pre; have := hc.whr; have := hc.token; have := hc.conds; have := hc.ops; have := hc.fams; omega))) ?_
   try simp only [go_sem, seval]
   repeat (first | (refine And.intro ?_ ?_; · first | exact ⟨rfl, by simp [AV.sz, AV.memOK]⟩ | exact ⟨by simp, .inr trivial, by have := hS.len; omega, by have := hS.len; omega⟩ | exact ⟨by simp, trivial, by have := hS.len; omega, by have := hS.len; omega⟩) | refine peel ?_)
   refine hK _ _ _ ?_; clear hK K
   refine awp_seq_k fun K2 hK2 => ?_
   refine awp_genT (fun T' H' n' => ∃ ver bs, bs = hdrB c ∧ T' = tl [(1, .loc n 0 0 0 []), (3, .osl (n + 1) ver 0 bs.length)] ∧ LS H n [(n, .arr 0 17 [cmdAV c])] (n + 1) ver (21) bs H' n') ⟨_, bs ++ uintB (u64 c.serial), by rw [hbs]; simp [hdrB, hcf], rfl, ((hS.put (hS.lu (c.serial))).up (by have := hc.row; have := hc.frm; have := hc.to; have := hc.pre; have := hc.whr; have := hc.token; have := hc.conds; have := hc.ops; have := hc.fams; omega))⟩ ?_
   rintro T1 H1 n1 ⟨ver, bs, hbs, rfl, hS⟩
   have r1 := hS.get n (.arr 0 17 [cmdAV c]) (by simp); have rB := hS.buf
   refine awp_reg zs [1, 3, 27] fun K hK => ?_
   try simp only [go_sem, seval, cmdAV, r1, bys]
   repeat (first | (refine And.intro ?_ ?_; · first | exact ⟨rfl, by simp [AV.sz, AV.memOK]⟩ | exact ⟨by simp, .inr trivial, by have := hS.len; omega, by have := hS.len; omega⟩ | exact ⟨by simp, trivial, by have := hS.len; omega, by have := hS.len; omega⟩) | refine peel ?_)
   refine hK _ _ _ ?_; clear hK K
   refine awp_block ?_
   refine awp_reg zs [1, 3, 27, 28] fun K hK => ?_
   try simp only [go_sem, seval]
   repeat (first | (refine And.intro ?_ ?_; · first | exact ⟨rfl, by simp [AV.sz, AV.memOK]⟩ | exact ⟨by simp, .inr trivial, by have := hS.len; omega, by have := hS.len; omega⟩ | exact ⟨by simp, trivial, by have := hS.len; omega, by have := hS.len; omega⟩) | refine peel ?_)
   refine hK _ _ _ ?_; clear hK K
   refine awp_cnd (fun hb => ?_) (fun hb => ?_)
   ·skip
    have h4 : c.kind = 4 := by simpa using hb
    refine awp_reg zs [1, 3] fun K hK => ?_
    try simp only [go_sem, seval, cmdAV, r1, bys]
    repeat (first | (refine And.intro ?_ ?_; · first | exact ⟨rfl, by simp [AV.sz, AV.memOK]⟩ | exact ⟨by simp, .inr trivial, by have := hS.len; omega, by have := hS.len; omega⟩ | exact ⟨by simp, trivial, by have := hS.len; omega, by have := hS.len; omega⟩) | refine peel ?_)
    refine callK_use Tryz.func90 rfl rfl rfl ((c_ref14_put hS.buf (c.row) (by have := hc.row; have := hc.frm; have := hc.to; have := hc.pre; have := hc.whr; have := hc.token; have := hc.conds; have := hc.ops; have := hc.fams; omega) (by have := hS.len; have := hc.row; have := hc.frm; have := hc.to; have := hc.pre; have := hc.whr; have := hc.token; have := hc.conds; have := hc.ops; have := hc.fams; omega))) ?_
    try simp only [go_sem, seval]
    repeat (first | (refine And.intro ?_ ?_; · first | exact ⟨rfl, by simp [AV.sz, AV.memOK]⟩ | exact ⟨by simp, .inr trivial, by have := hS.len; omega, by have := hS.len; omega⟩ | exact ⟨by simp, trivial, by have := hS.len; omega, by have := hS.len; omega⟩) | refine peel ?_)
    refine hK _ _ _ ?_; clear hK K
    refine awp_genT (fun T' H' n' => ∃ ver bs, bs = hdrB c ++ bytesB c.row ∧ T' = tl [(1, .loc n 0 0 0 []), (3, .osl (n + 1) ver 0 bs.length)] ∧ LS H n [(n, .arr 0 17 [cmdAV c])] (n + 1) ver (1100000) bs H' n') ⟨_, bs ++ bytesB c.row, by rw [hbs], rfl, ((hS.put (hS.lby (c.row) (by have := hc.row; have := hc.frm; have := hc.to; have := hc.pre; have := hc.whr; have := hc.token; have := hc.conds; have := hc.ops; have := hc.fams; omega))).up (by have := hc.row; have := hc.frm; have := hc.to; have := hc.pre; have := hc.whr; have := hc.token; have := hc.conds; have := hc.ops; have := hc.fams; omega))⟩ ?_
    rintro T1 H1 n1 ⟨ver, bs, hbs, rfl, hS⟩
    have r1 := hS.get n (.arr 0 17 [cmdAV c]) (by simp); have rB := hS.buf
    refine awp_reg zs [1, 3] fun K hK => ?_
    try simp only [go_sem, seval, cmdAV, r1, List.length_map, bys]
    repeat (first | (refine And.intro ?_ ?_; · first | exact ⟨rfl, by simp [AV.sz, AV.memOK]⟩ | exact ⟨by simp, .inr trivial, by have := hS.len; omega, by have := hS.len; omega⟩ | exact ⟨by simp, trivial, by have := hS.len; omega, by have := hS.len; omega⟩) | refine peel ?_)
    refine callK_use Tryz.func88 rfl rfl rfl ((c_ref14_add hS.buf (c.conds.length) (by have := hS.len; have := hc.row; have := hc.frm; have := hc.to; have := hc.pre; have := hc.whr; have := hc.token; have := hc.conds; have := hc.ops; have := hc.fams; omega))) ?_
    try simp only [go_sem, seval]
    repeat (first | (refine And.intro ?_ ?_; · first | exact ⟨rfl, by simp [AV.sz, AV.memOK]⟩ | exact ⟨by simp, .inr trivial, by have := hS.len; omega, by have := hS.len; omega⟩ | exact ⟨by simp, trivial, by have := hS.len; omega, by have := hS.len; omega⟩) | refine peel ?_)
    refine hK _ _ _ ?_; clear hK K
    refine awp_seq_k fun K3 hK3 => ?_
    refine awp_genT (fun T' H' n' => ∃ ver bs, bs = hdrB c ++ bytesB c.row ++ uintB c.conds.length ∧ T' = tl [(1, .loc n 0 0 0 []), (3, .osl (n + 1) ver 0 bs.length)] ∧ LS H n [(n, .arr 0 17 [cmdAV c])] (n + 1) ver (1100010) bs H' n') ⟨_, bs ++ uintB (u64 c.conds.length), by rw [hbs, huc], rfl, ((hS.put (hS.lu (c.conds.length))).up (by have := hc.row; have := hc.frm; have := hc.to; have := hc.pre; have := hc.whr; have := hc.token; have := hc.conds; have := hc.ops; have := hc.fams; omega))⟩ ?_
    rintro T1 H1 n1 ⟨ver, bs, hbs, rfl, hS⟩
    have r1 := hS.get n (.arr 0 17 [cmdAV c]) (by simp); have rB := hS.buf
    refine awp_reg zs [1, 3, 4] fun K hK => ?_
    try simp only [go_sem, seval]
    repeat (first | (refine And.intro ?_ ?_; · first | exact ⟨rfl, by simp [AV.sz, AV.memOK]⟩ | exact ⟨by simp, .inr trivial, by have := hS.len; omega, by have := hS.len; omega⟩ | exact ⟨by simp, trivial, by have := hS.len; omega, by have := hS.len; omega⟩) | refine peel ?_)
    refine hK _ _ _ ?_; clear hK K
    refine awp_block ?_
    refine awp_loop (fun T' H' n' => ∃ i : Nat, i ≤ c.conds.length ∧ ∃ ver bs, bs = hdrB c ++ bytesB c.row ++ uintB c.conds.length ++ (c.conds.take i).flatMap condB ∧ T' = tl [(1, .loc n 0 0 0 []), (3, .osl (n + 1) ver 0 bs.length), (4, .int .i64 i)] ∧ LS H n [(n, .arr 0 17 [cmdAV c])] (n + 1) ver (1100100 + 2100000 * i) bs H' n') (fun T' _ _ => c.conds.length - iv (T' 4)) ?_ ?_
    ·skip
     exact ⟨0, by omega, ver, bs, by rw [hbs]; simp, rfl, hS.up (by omega)⟩
    intro T1 H1 n1
    rintro ⟨i, hi, ver, bs, hbs, rfl, hS⟩
    have r1 := hS.get n (.arr 0 17 [cmdAV c]) (by simp); have rB := hS.buf
    refine awp_seq_k fun K4 hK4 => ?_
    refine awp_reg zs [1, 3, 4, 43] fun K hK => ?_
    try simp only [go_sem, seval, cmdAV, r1, List.length_map, bys]
    repeat (first | (refine And.intro ?_ ?_; · first | exact ⟨rfl, by simp [AV.sz, AV.memOK]⟩ | exact ⟨by simp, .inr trivial, by have := hS.len; omega, by have := hS.len; omega⟩ | exact ⟨by simp, trivial, by have := hS.len; omega, by have := hS.len; omega⟩) | refine peel ?_)
    refine hK _ _ _ ?_; clear hK K
    refine awp_cnd (fun hb => ?_) (fun hb => ?_)
    ·skip
     have hlt : i < c.conds.length := by have := of_decide_eq_true hb; omega
     have hfl := flatMap_take condB c.conds hlt
     have hmem := getD_mem c.conds hlt
     have hnth : nth (c.conds.map condAV) i = condAV (c.conds.getD i default) := nth_map condAV c.conds i hlt
     generalize c.conds.getD i default = x at *
     have hx := hc.cond x hmem
     have hil := hc.conds
     have hszx : (condAV x).sz = 4 := rfl
     have hagx : (condAV x).isAgg = true := rfl
     have hmox : (condAV x).memOK = true := rfl
     refine awp_skip ?_
     try simp only [go_sem, seval, cmdAV, bys]
     refine hK4 _ _ _ ?_
     first | clear hK4 K4 | skip
     refine awp_seq_k fun K5 hK5 => ?_
     refine awp_block ?_
     refine awp_reg zs [1, 3, 4, 5] fun K hK => ?_
     try simp only [go_sem, seval, cmdAV, r1, List.length_map, bys, Int.toNat_natCast, hnth, hszx, hagx, hmox]
     repeat (first | (refine And.intro ?_ ?_; · first | exact ⟨rfl, by simp [AV.sz, AV.memOK]⟩ | exact ⟨by simp, .inr trivial, by have := hS.len; omega, by have := hS.len; omega⟩ | exact ⟨by simp, trivial, by have := hS.len; omega, by have := hS.len; omega⟩) | refine peel ?_)
     refine hK _ _ _ ?_; clear hK K
     refine awp_genT (fun T' H' n' => ∃ kx ver bs, bs = hdrB c ++ bytesB c.row ++ uintB c.conds.length ++ (c.conds.take i).flatMap condB ∧ T' = tl [(1, .loc n 0 0 0 []), (3, .osl (n + 1) ver 0 bs.length), (4, .int .i64 i), (5, .loc kx 0 0 0 [])] ∧ LS H n [(kx, .arr 0 4 [condAV x]), (n, .arr 0 17 [cmdAV c])] (n + 1) ver (1100100 + 2100000 * i) bs H' n') ⟨n1, ver, bs, hbs, rfl, hS.newObj _⟩ ?_
     rintro T1 H1 n1 ⟨kx, ver, bs, hbs, rfl, hS⟩
     have r1 := hS.get n (.arr 0 17 [cmdAV c]) (by simp); have rB := hS.buf
     have r6 := hS.get kx (.arr 0 4 [condAV x]) (by simp)
     refine awp_reg zs [1, 3, 4, 5] fun K hK => ?_
     try simp only [go_sem, seval, cmdAV, r6, rB, List.length_map, bys, byteI_wrap, condAV]
     repeat (first | (refine And.intro ?_ ?_; · first | exact ⟨rfl, by simp [AV.sz, AV.memOK]⟩ | exact ⟨by simp, .inr trivial, by have := hS.len; omega, by have := hS.len; omega⟩ | exact ⟨by simp, trivial, by have := hS.len; omega, by have := hS.len; omega⟩) | refine peel ?_)
     refine hK _ _ _ ?_; clear hK K
     refine awp_genT (fun T' H' n' => ∃ ver bs, bs = hdrB c ++ bytesB c.row ++ uintB c.conds.length ++ (c.conds.take i).flatMap condB ++ [byteI x.kind, byteI x.fam] ∧ T' = tl [(1, .loc n 0 0 0 []), (3, .osl (n + 1) ver 0 bs.length), (4, .int .i64 i), (5, .loc kx 0 0 0 [])] ∧ LS H n [(kx, .arr 0 4 [condAV x]), (n, .arr 0 17 [cmdAV c])] (n + 1) ver (1100100 + 2100000 * i + 2) bs H' n') ⟨_, bs ++ [byteI x.kind, byteI x.fam], by rw [hbs], by rw [List.length_append]; rfl, (by have h9 := hS.put (ver' := ver + 1) (hS.l1 [byteI x.kind, byteI x.fam]); rw [List.map_append] at h9; rw [List.take_of_length_le (by simp)]; exact h9.up (by simp))⟩ ?_
     rintro T1 H1 n1 ⟨ver, bs, hbs, rfl, hS⟩
     have r1 := hS.get n (.arr 0 17 [cmdAV c]) (by simp); have rB := hS.buf
     have r6 := hS.get kx (.arr 0 4 [condAV x]) (by simp)
     refine awp_reg zs [1, 3, 4, 5] fun K hK => ?_
     try simp only [go_sem, seval, cmdAV, r6, bys, condAV]
     repeat (first | (refine And.intro ?_ ?_; · first | exact ⟨rfl, by simp [AV.sz, AV.memOK]⟩ | exact ⟨by simp, .inr trivial, by have := hS.len; omega, by have := hS.len; omega⟩ | exact ⟨by simp, trivial, by have := hS.len; omega, by have := hS.len; omega⟩) | refine peel ?_)
     refine callK_use Tryz.func90 rfl rfl rfl ((c_ref14_put hS.buf (x.qual) (by omega) (by have := hS.len; have := hc.row; have := hc.frm; have := hc.to; have := hc.pre; have := hc.whr; have := hc.token; have := hc.conds; have := hc.ops; have := hc.fams; omega))) ?_
     try simp only [go_sem, seval]
     repeat (first | (refine And.intro ?_ ?_; · first | exact ⟨rfl, by simp [AV.sz, AV.memOK]⟩ | exact ⟨by simp, .inr trivial, by have := hS.len; omega, by have := hS.len; omega⟩ | exact ⟨by simp, trivial, by have := hS.len; omega, by have := hS.len; omega⟩) | refine peel ?_)
     refine hK _ _ _ ?_; clear hK K
     refine awp_genT (fun T' H' n' => ∃ ver bs, bs = hdrB c ++ bytesB c.row ++ uintB c.conds.length ++ (c.conds.take i).flatMap condB ++ [byteI x.kind, byteI x.fam] ++ bytesB x.qual ∧ T' = tl [(1, .loc n 0 0 0 []), (3, .osl (n + 1) ver 0 bs.length), (4, .int .i64 i), (5, .loc kx 0 0 0 [])] ∧ LS H n [(kx, .arr 0 4 [condAV x]), (n, .arr 0 17 [cmdAV c])] (n + 1) ver (1100100 + 2100000 * i + 1048602) bs H' n') ⟨_, bs ++ bytesB x.qual, by rw [hbs], rfl, ((hS.put (hS.lby (x.qual) (by omega))).up (by omega))⟩ ?_
     rintro T1 H1 n1 ⟨ver, bs, hbs, rfl, hS⟩
     have r1 := hS.get n (.arr 0 17 [cmdAV c]) (by simp); have rB := hS.buf
     have r6 := hS.get kx (.arr 0 4 [condAV x]) (by simp)
     refine awp_reg1 zs [1, 3, 4] fun K hK => ?_
     try simp only [go_sem, seval, cmdAV, r6, bys, condAV]
     repeat (first | (refine And.intro ?_ ?_; · first | exact ⟨rfl, by simp [AV.sz, AV.memOK]⟩ | exact ⟨by simp, .inr trivial, by have := hS.len; omega, by have := hS.len; omega⟩ | exact ⟨by simp, trivial, by have := hS.len; omega, by have := hS.len; omega⟩) | refine peel ?_)
     refine callK_use Tryz.func90 rfl rfl rfl ((c_ref14_put hS.buf (x.value) (by omega) (by have := hS.len; have := hc.row; have := hc.frm; have := hc.to; have := hc.pre; have := hc.whr; have := hc.token; have := hc.conds; have := hc.ops; have := hc.fams; omega))) ?_
     try simp only [go_sem, seval]
     repeat (first | (refine And.intro ?_ ?_; · first | exact ⟨rfl, by simp [AV.sz, AV.memOK]⟩ | exact ⟨by simp, .inr trivial, by have := hS.len; omega, by have := hS.len; omega⟩ | exact ⟨by simp, trivial, by have := hS.len; omega, by have := hS.len; omega⟩) | refine peel ?_)
     refine hK _ _ _ ?_; clear hK K
     try simp only [go_sem, seval, cmdAV, bys]
     refine hK5 _ _ _ ?_
     first | clear hK5 K5 | skip
     refine awp_genT (fun T' H' n' => ∃ ver bs, bs = hdrB c ++ bytesB c.row ++ uintB c.conds.length ++ (c.conds.take i).flatMap condB ++ [byteI x.kind, byteI x.fam] ++ bytesB x.qual ++ bytesB x.value ∧ T' = tl [(1, .loc n 0 0 0 []), (3, .osl (n + 1) ver 0 bs.length), (4, .int .i64 i)] ∧ LS H n [(kx, .arr 0 4 [condAV x]), (n, .arr 0 17 [cmdAV c])] (n + 1) ver (1100100 + 2100000 * i + 2097202) bs H' n') ⟨_, bs ++ bytesB x.value, by rw [hbs], rfl, ((hS.put (hS.lby (x.value) (by omega))).up (by omega))⟩ ?_
     rintro T1 H1 n1 ⟨ver, bs, hbs, rfl, hS⟩
     have r1 := hS.get n (.arr 0 17 [cmdAV c]) (by simp); have rB := hS.buf
     refine awp_reg1 zs [1, 3, 4] fun K hK => ?_
     try simp only [go_sem, seval, cmdAV, bys]
     repeat (first | (refine And.intro ?_ ?_; · first | exact ⟨rfl, by simp [AV.sz, AV.memOK]⟩ | exact ⟨by simp, .inr trivial, by have := hS.len; omega, by have := hS.len; omega⟩ | exact ⟨by simp, trivial, by have := hS.len; omega, by have := hS.len; omega⟩) | refine peel ?_)
     refine hK _ _ _ ?_; clear hK K
     try simp only [go_sem, seval, cmdAV, bys]
     refine ⟨⟨i + 1, by omega, ver, bs, by rw [hbs, hfl]; simp [condB], by rw [w1 (by omega)], hS.drop.up (by omega)⟩, by rw [w1 (by omega)]; simp; omega⟩
    ·skip
     have hge : i = c.conds.length := by have := of_decide_eq_false hb; omega
     rw [flatMap_all condB c.conds (by omega)] at hbs
     have hil := hc.conds
     have r1 := hS.get n (.arr 0 17 [cmdAV c]) (by simp); have rB := hS.buf
     refine awp_exit ?_
     try simp only [go_sem, seval, cmdAV, bys]
     refine hK3 _ _ _ ?_
     first | clear hK3 K3 | skip
     refine awp_reg zs [1, 3] fun K hK => ?_
     try simp only [go_sem, seval, cmdAV, r1, List.length_map, bys]
     repeat (first | (refine And.intro ?_ ?_; · first | exact ⟨rfl, by simp [AV.sz, AV.memOK]⟩ | exact ⟨by simp, .inr trivial, by have := hS.len; omega, by have := hS.len; omega⟩ | exact ⟨by simp, trivial, by have := hS.len; omega, by have := hS.len; omega⟩) | refine peel ?_)
     refine callK_use Tryz.func88 rfl rfl rfl ((c_ref14_add hS.buf (c.ops.length) (by have := hS.len; have := hc.row; have := hc.frm; have := hc.to; have := hc.pre; have := hc.whr; have := hc.token; have := hc.conds; have := hc.ops; have := hc.fams; omega))) ?_
     try simp only [go_sem, seval]
     repeat (first | (refine And.intro ?_ ?_; · first | exact ⟨rfl, by simp [AV.sz, AV.memOK]⟩ | exact ⟨by simp, .inr trivial, by have := hS.len; omega, by have := hS.len; omega⟩ | exact ⟨by simp, trivial, by have := hS.len; omega, by have := hS.len; omega⟩) | refine peel ?_)
     refine hK _ _ _ ?_; clear hK K
     refine awp_genT (fun T' H' n' => ∃ ver bs, bs = hdrB c ++ bytesB c.row ++ uintB c.conds.length ++ c.conds.flatMap condB ++ uintB c.ops.length ∧ T' = tl [(1, .loc n 0 0 0 []), (3, .osl (n + 1) ver 0 bs.length)] ∧ LS H n [(n, .arr 0 17 [cmdAV c])] (n + 1) ver (2300000000000) bs H' n') ⟨_, bs ++ uintB (u64 c.ops.length), by rw [hbs, huo], rfl, ((hS.put (hS.lu (c.ops.length))).up (by omega))⟩ ?_
     rintro T1 H1 n1 ⟨ver, bs, hbs, rfl, hS⟩
     have r1 := hS.get n (.arr 0 17 [cmdAV c]) (by simp); have rB := hS.buf
     refine awp_reg zs [1, 3, 6] fun K hK => ?_
     try simp only [go_sem, seval]
     repeat (first | (refine And.intro ?_ ?_; · first | exact ⟨rfl, by simp [AV.sz, AV.memOK]⟩ | exact ⟨by simp, .inr trivial, by have := hS.len; omega, by have := hS.len; omega⟩ | exact ⟨by simp, trivial, by have := hS.len; omega, by have := hS.len; omega⟩) | refine peel ?_)
     refine hK _ _ _ ?_; clear hK K
     refine awp_block ?_
     refine awp_loop (fun T' H' n' => ∃ i : Nat, i ≤ c.ops.length ∧ ∃ ver bs, bs = hdrB c ++ bytesB c.row ++ uintB c.conds.length ++ c.conds.flatMap condB ++ uintB c.ops.length ++ (c.ops.take i).flatMap opB ∧ T' = tl [(1, .loc n 0 0 0 []), (3, .osl (n + 1) ver 0 bs.length), (6, .int .i64 i)] ∧ LS H n [(n, .arr 0 17 [cmdAV c])] (n + 1) ver (2300000000100 + 2100000 * i) bs H' n') (fun T' _ _ => c.ops.length - iv (T' 6)) ?_ ?_
     ·skip
      exact ⟨0, by omega, ver, bs, by rw [hbs]; simp, rfl, hS.up (by omega)⟩
     intro T1 H1 n1
     rintro ⟨i, hi, ver, bs, hbs, rfl, hS⟩
     have r1 := hS.get n (.arr 0 17 [cmdAV c]) (by simp); have rB := hS.buf
     refine awp_seq_k fun K6 hK6 => ?_
     refine awp_reg zs [1, 3, 6, 77] fun K hK => ?_
     try simp only [go_sem, seval, cmdAV, r1, List.length_map, bys]
     repeat (first | (refine And.intro ?_ ?_; · first | exact ⟨rfl, by simp [AV.sz, AV.memOK]⟩ | exact ⟨by simp, .inr trivial, by have := hS.len; omega, by have := hS.len; omega⟩ | exact ⟨by simp, trivial, by have := hS.len; omega, by have := hS.len; omega⟩) | refine peel ?_)
     refine hK _ _ _ ?_; clear hK K
     refine awp_cnd (fun hb => ?_) (fun hb => ?_)
     ·skip
      have hlt : i < c.ops.length := by have := of_decide_eq_true hb; omega
      have hfl := flatMap_take opB c.ops hlt
      have hmem := getD_mem c.ops hlt
      have hnth : nth (c.ops.map opAV) i = opAV (c.ops.getD i default) := nth_map opAV c.ops i hlt
      generalize c.ops.getD i default = x at *
      have hx := hc.op x hmem
      have hil := hc.ops
      have hszx : (opAV x).sz = 6 := rfl
      have hagx : (opAV x).isAgg = true := rfl
      have hmox : (opAV x).memOK = true := rfl
      refine awp_skip ?_
      try simp only [go_sem, seval, cmdAV, bys]
      refine hK6 _ _ _ ?_
      first | clear hK6 K6 | skip
      refine awp_seq_k fun K7 hK7 => ?_
      refine awp_block ?_
      refine awp_reg zs [1, 3, 6, 7] fun K hK => ?_
      try simp only [go_sem, seval, cmdAV, r1, List.length_map, bys, Int.toNat_natCast, hnth, hszx, hagx, hmox]
      repeat (first | (refine And.intro ?_ ?_; · first | exact ⟨rfl, by simp [AV.sz, AV.memOK]⟩ | exact ⟨by simp, .inr trivial, by have := hS.len; omega, by have := hS.len; omega⟩ | exact ⟨by simp, trivial, by have := hS.len; omega, by have := hS.len; omega⟩) | refine peel ?_)
      refine hK _ _ _ ?_; clear hK K
      refine awp_genT (fun T' H' n' => ∃ kx ver bs, bs = hdrB c ++ bytesB c.row ++ uintB c.conds.length ++ c.conds.flatMap condB ++ uintB c.ops.length ++ (c.ops.take i).flatMap opB ∧ T' = tl [(1, .loc n 0 0 0 []), (3, .osl (n + 1) ver 0 bs.length), (6, .int .i64 i), (7, .loc kx 0 0 0 [])] ∧ LS H n [(kx, .arr 0 6 [opAV x]), (n, .arr 0 17 [cmdAV c])] (n + 1) ver (2300000000100 + 2100000 * i) bs H' n') ⟨n1, ver, bs, hbs, rfl, hS.newObj _⟩ ?_
      rintro T1 H1 n1 ⟨kx, ver, bs, hbs, rfl, hS⟩
      have r1 := hS.get n (.arr 0 17 [cmdAV c]) (by simp); have rB := hS.buf
      have r6 := hS.get kx (.arr 0 6 [opAV x]) (by simp)
      refine awp_reg zs [1, 3, 6, 7] fun K hK => ?_
      try simp only [go_sem, seval, cmdAV, r6, rB, List.length_map, bys, byteI_wrap, opAV]
      repeat (first | (refine And.intro ?_ ?_; · first | exact ⟨rfl, by simp [AV.sz, AV.memOK]⟩ | exact ⟨by simp, .inr trivial, by have := hS.len; omega, by have := hS.len; omega⟩ | exact ⟨by simp, trivial, by have := hS.len; omega, by have := hS.len; omega⟩) | refine peel ?_)
      refine hK _ _ _ ?_; clear hK K
      refine awp_genT (fun T' H' n' => ∃ ver bs, bs = hdrB c ++ bytesB c.row ++ uintB c.conds.length ++ c.conds.flatMap condB ++ uintB c.ops.length ++ (c.ops.take i).flatMap opB ++ [byteI x.kind, byteI x.fam] ∧ T' = tl [(1, .loc n 0 0 0 []), (3, .osl (n + 1) ver 0 bs.length), (6, .int .i64 i), (7, .loc kx 0 0 0 [])] ∧ LS H n [(kx, .arr 0 6 [opAV x]), (n, .arr 0 17 [cmdAV c])] (n + 1) ver (2300000000100 + 2100000 * i + 2) bs H' n') ⟨_, bs ++ [byteI x.kind, byteI x.fam], by rw [hbs], by rw [List.length_append]; rfl, (by have h9 := hS.put (ver' := ver + 1) (hS.l1 [byteI x.kind, byteI x.fam]); rw [List.map_append] at h9; rw [List.take_of_length_le (by simp)]; exact h9.up (by simp))⟩ ?_
      rintro T1 H1 n1 ⟨ver, bs, hbs, rfl, hS⟩
      have r1 := hS.get n (.arr 0 17 [cmdAV c]) (by simp); have rB := hS.buf
      have r6 := hS.get kx (.arr 0 6 [opAV x]) (by simp)
      refine awp_reg zs [1, 3, 6, 7] fun K hK => ?_
      try simp only [go_sem, seval, cmdAV, r6, bys, opAV]
      repeat (first | (refine And.intro ?_ ?_; · first | exact ⟨rfl, by simp [AV.sz, AV.memOK]⟩ | exact ⟨by simp, .inr trivial, by have := hS.len; omega, by have := hS.len; omega⟩ | exact ⟨by simp, trivial, by have := hS.len; omega, by have := hS.len; omega⟩) | refine peel ?_)
      refine callK_use Tryz.func90 rfl rfl rfl ((c_ref14_put hS.buf (x.qual) (by omega) (by have := hS.len; have := hc.row; have := hc.frm; have := hc.to; have := hc.pre; have := hc.whr; have := hc.token; have := hc.conds; have := hc.ops; have := hc.fams; omega))) ?_
      try simp only [go_sem, seval]
      repeat (first | (refine And.intro ?_ ?_; · first | exact ⟨rfl, by simp [AV.sz, AV.memOK]⟩ | exact ⟨by simp, .inr trivial, by have := hS.len; omega, by have := hS.len; omega⟩ | exact ⟨by simp, trivial, by have := hS.len; omega, by have := hS.len; omega⟩) | refine peel ?_)
      refine hK _ _ _ ?_; clear hK K
      refine awp_genT (fun T' H' n' => ∃ ver bs, bs = hdrB c ++ bytesB c.row ++ uintB c.conds.length ++ c.conds.flatMap condB ++ uintB c.ops.length ++ (c.ops.take i).flatMap opB ++ [byteI x.kind, byteI x.fam] ++ bytesB x.qual ∧ T' = tl [(1, .loc n 0 0 0 []), (3, .osl (n + 1) ver 0 bs.length), (6, .int .i64 i), (7, .loc kx 0 0 0 [])] ∧ LS H n [(kx, .arr 0 6 [opAV x]), (n, .arr 0 17 [cmdAV c])] (n + 1) ver (2300000000100 + 2100000 * i + 1048602) bs H' n') ⟨_, bs ++ bytesB x.qual, by rw [hbs], rfl, ((hS.put (hS.lby (x.qual) (by omega))).up (by omega))⟩ ?_
      rintro T1 H1 n1 ⟨ver, bs, hbs, rfl, hS⟩
      have r1 := hS.get n (.arr 0 17 [cmdAV c]) (by simp); have rB := hS.buf
      have r6 := hS.get kx (.arr 0 6 [opAV x]) (by simp)
      refine awp_reg zs [1, 3, 6, 7] fun K hK => ?_
      try simp only [go_sem, seval, cmdAV, r6, bys, opAV]
      repeat (first | (refine And.intro ?_ ?_; · first | exact ⟨rfl, by simp [AV.sz, AV.memOK]⟩ | exact ⟨by simp, .inr trivial, by have := hS.len; omega, by have := hS.len; omega⟩ | exact ⟨by simp, trivial, by have := hS.len; omega, by have := hS.len; omega⟩) | refine peel ?_)
      refine callK_use Tryz.func88 rfl rfl rfl ((c_ref14_add hS.buf (x.ts) (by have := hS.len; have := hc.row; have := hc.frm; have := hc.to; have := hc.pre; have := hc.whr; have := hc.token; have := hc.conds; have := hc.ops; have := hc.fams; omega))) ?_
      try simp only [go_sem, seval]
      repeat (first | (refine And.intro ?_ ?_; · first | exact ⟨rfl, by simp [AV.sz, AV.memOK]⟩ | exact ⟨by simp, .inr trivial, by have := hS.len; omega, by have := hS.len; omega⟩ | exact ⟨by simp, trivial, by have := hS.len; omega, by have := hS.len; omega⟩) | refine peel ?_)
      refine hK _ _ _ ?_; clear hK K
      refine awp_genT (fun T' H' n' => ∃ ver bs, bs = hdrB c ++ bytesB c.row ++ uintB c.conds.length ++ c.conds.flatMap condB ++ uintB c.ops.length ++ (c.ops.take i).flatMap opB ++ [byteI x.kind, byteI x.fam] ++ bytesB x.qual ++ uintB (u64 x.ts) ∧ T' = tl [(1, .loc n 0 0 0 []), (3, .osl (n + 1) ver 0 bs.length), (6, .int .i64 i), (7, .loc kx 0 0 0 [])] ∧ LS H n [(kx, .arr 0 6 [opAV x]), (n, .arr 0 17 [cmdAV c])] (n + 1) ver (2300000000100 + 2100000 * i + 1048612) bs H' n') ⟨_, bs ++ uintB (u64 x.ts), by rw [hbs], rfl, ((hS.put (hS.lu (x.ts))).up (by omega))⟩ ?_
      rintro T1 H1 n1 ⟨ver, bs, hbs, rfl, hS⟩
      have r1 := hS.get n (.arr 0 17 [cmdAV c]) (by simp); have rB := hS.buf
      have r6 := hS.get kx (.arr 0 6 [opAV x]) (by simp)
      refine awp_reg zs [1, 3, 6, 7] fun K hK => ?_
      try simp only [go_sem, seval, cmdAV, r6, bys, opAV]
      repeat (first | (refine And.intro ?_ ?_; · first | exact ⟨rfl, by simp [AV.sz, AV.memOK]⟩ | exact ⟨by simp, .inr trivial, by have := hS.len; omega, by have := hS.len; omega⟩ | exact ⟨by simp, trivial, by have := hS.len; omega, by have := hS.len; omega⟩) | refine peel ?_)
      refine callK_use Tryz.func90 rfl rfl rfl ((c_ref14_put hS.buf (x.value) (by omega) (by have := hS.len; have := hc.row; have := hc.frm; have := hc.to; have := hc.pre; have := hc.whr; have := hc.token; have := hc.conds; have := hc.ops; have := hc.fams; omega))) ?_
      try simp only [go_sem, seval]
      repeat (first | (refine And.intro ?_ ?_; · first | exact ⟨rfl, by simp [AV.sz, AV.memOK]⟩ | exact ⟨by simp, .inr trivial, by have := hS.len; omega, by have := hS.len; omega⟩ | exact ⟨by simp, trivial, by have := hS.len; omega, by have := hS.len; omega⟩) | refine peel ?_)
      refine hK _ _ _ ?_; clear hK K
      refine awp_genT (fun T' H' n' => ∃ ver bs, bs = hdrB c ++ bytesB c.row ++ uintB c.conds.length ++ c.conds.flatMap condB ++ uintB c.ops.length ++ (c.ops.take i).flatMap opB ++ [byteI x.kind, byteI x.fam] ++ bytesB x.qual ++ uintB (u64 x.ts) ++ bytesB x.value ∧ T' = tl [(1, .loc n 0 0 0 []), (3, .osl (n + 1) ver 0 bs.length), (6, .int .i64 i), (7, .loc kx 0 0 0 [])] ∧ LS H n [(kx, .arr 0 6 [opAV x]), (n, .arr 0 17 [cmdAV c])] (n + 1) ver (2300000000100 + 2100000 * i + 2097212) bs H' n') ⟨_, bs ++ bytesB x.value, by rw [hbs], rfl, ((hS.put (hS.lby (x.value) (by omega))).up (by omega))⟩ ?_
      rintro T1 H1 n1 ⟨ver, bs, hbs, rfl, hS⟩
      have r1 := hS.get n (.arr 0 17 [cmdAV c]) (by simp); have rB := hS.buf
      have r6 := hS.get kx (.arr 0 6 [opAV x]) (by simp)
      refine awp_reg1 zs [1, 3, 6] fun K hK => ?_
      try simp only [go_sem, seval, cmdAV, r6, bys, opAV]
      repeat (first | (refine And.intro ?_ ?_; · first | exact ⟨by simp, .inr trivial, by rw [eight_len]; have := hS.len; omega, by rw [eight_len]; have := hS.len; omega⟩ | exact ⟨rfl, by simp [AV.sz, AV.memOK]⟩ | exact ⟨by simp, .inr trivial, by have := hS.len; omega, by have := hS.len; omega⟩ | exact ⟨by simp, trivial, by have := hS.len; omega, by have := hS.len; omega⟩) | refine peel ?_)
      refine callK_use Tryz.func126 rfl rfl rfl ((c_ref14_delta x.delta _ _)) ?_
      try simp only [go_sem, seval, rB, List.length_map, bys]
      repeat (first | (refine And.intro ?_ ?_; · first | exact ⟨by simp, .inr trivial, by rw [eight_len]; have := hS.len; omega, by rw [eight_len]; have := hS.len; omega⟩ | exact ⟨rfl, by simp [AV.sz, AV.memOK]⟩ | exact ⟨by simp, .inr trivial, by have := hS.len; omega, by have := hS.len; omega⟩ | exact ⟨by simp, trivial, by have := hS.len; omega, by have := hS.len; omega⟩) | refine peel ?_)
      refine hK _ _ _ ?_; clear hK K
      try simp only [go_sem, seval, cmdAV, bys]
      refine hK7 _ _ _ ?_
      first | clear hK7 K7 | skip
      refine awp_genT (fun T' H' n' => ∃ ver bs, bs = hdrB c ++ bytesB c.row ++ uintB c.conds.length ++ c.conds.flatMap condB ++ uintB c.ops.length ++ (c.ops.take i).flatMap opB ++ [byteI x.kind, byteI x.fam] ++ bytesB x.qual ++ uintB (u64 x.ts) ++ bytesB x.value ++ eightB x.delta ∧ T' = tl [(1, .loc n 0 0 0 []), (3, .osl (n + 1) ver 0 bs.length), (6, .int .i64 i)] ∧ LS H n [(kx, .arr 0 6 [opAV x]), (n, .arr 0 17 [cmdAV c])] (n + 1) ver (2300000000100 + 2100000 * i + 2097220) bs H' n') ⟨_, bs ++ eightB x.delta, by rw [hbs], by rw [List.length_append], (by have h9 := hS.put (ver' := ver + 1) (hS.l1 (eightB x.delta)); rw [List.map_append] at h9; rw [List.take_of_length_le (by simp)]; exact h9.up (by rw [eight_len]; omega))⟩ ?_
      rintro T1 H1 n1 ⟨ver, bs, hbs, rfl, hS⟩
      have r1 := hS.get n (.arr 0 17 [cmdAV c]) (by simp); have rB := hS.buf
      refine awp_reg1 zs [1, 3, 6] fun K hK => ?_
      try simp only [go_sem, seval, cmdAV, bys]
      repeat (first | (refine And.intro ?_ ?_; · first | exact ⟨rfl, by simp [AV.sz, AV.memOK]⟩ | exact ⟨by simp, .inr trivial, by have := hS.len; omega, by have := hS.len; omega⟩ | exact ⟨by simp, trivial, by have := hS.len; omega, by have := hS.len; omega⟩) | refine peel ?_)
      refine hK _ _ _ ?_; clear hK K
      try simp only [go_sem, seval, cmdAV, bys]
      refine ⟨⟨i + 1, by omega, ver, bs, by rw [hbs, hfl]; simp [opB], by rw [w1 (by omega)], hS.drop.up (by omega)⟩, by rw [w1 (by omega)]; simp; omega⟩
     ·skip
      have hge : i = c.ops.length := by have := of_decide_eq_false hb; omega
      rw [flatMap_all opB c.ops (by omega)] at hbs
      have hil := hc.ops
      have r1 := hS.get n (.arr 0 17 [cmdAV c]) (by simp); have rB := hS.buf
      have hfin : bs = cmdB c := by rw [hbs, cmdB_eq h1 h7]; simp [h4, kOps, kLeast, kQuery, mutB]
      refine awp_exit ?_
      try simp only [go_sem, seval, cmdAV, bys]
      refine hK2 _ _ _ ?_
      first | clear hK2 K2 | skip
      refine awp_sel [3] ?_
      simp only [go_sem, seval]
      first | refine awp_genT (fun T' H' n' => ∃ ver bs, bs = cmdB c ∧ T' = tl [(3, .osl (n + 1) ver 0 bs.length)] ∧ LS H n [(n, .arr 0 17 [cmdAV c])] (n + 1) ver (7000200000000) bs H' n') ⟨_, bs, hfin, rfl, hS.up (by have := hc.row; have := hc.frm; have := hc.to; have := hc.pre; have := hc.whr; have := hc.token; have := hc.conds; have := hc.ops; have := hc.fams; omega)⟩ ?_ | refine awp_genT (fun T' H' n' => ∃ ver bs, bs = cmdB c ∧ T' = tl [(3, .osl (n + 1) ver 0 bs.length)] ∧ LS H n [(n, .arr 0 17 [cmdAV c])] (n + 1) ver (7000200000000) bs H' n') ⟨_, bs ++ uintB (u64 c.n), hfin, rfl, ((hS.put (hS.lu (c.n))).up (by have := hc.row; have := hc.frm; have := hc.to; have := hc.pre; have := hc.whr; have := hc.token; have := hc.conds; have := hc.ops; have := hc.fams; omega))⟩ ?_ | refine awp_genT (fun T' H' n' => ∃ ver bs, bs = cmdB c ∧ T' = tl [(3, .osl (n + 1) ver 0 bs.length)] ∧ LS H n [(n, .arr 0 17 [cmdAV c])] (n + 1) ver (7000200000000) bs H' n') ⟨_, bs ++ bytesB c.q.token, by rw [hbs, cmdB_eq h1 h7]; simp [hk7, kOps, kLeast, kQuery, qryB], rfl, (((hS.put (hS.lby (c.q.token) (by have := hc.row; have := hc.frm; have := hc.to; have := hc.pre; have := hc.whr; have := hc.token; have := hc.conds; have := hc.ops; have := hc.fams; omega))).up (by have := hc.row; have := hc.frm; have := hc.to; have := hc.pre; have := hc.whr; have := hc.token; have := hc.conds; have := hc.ops; have := hc.fams; omega))).drop⟩ ?_
      rintro T1 H1 n1 ⟨ver, bs, hfin, rfl, hS⟩
      refine awp_reg zs [2] fun K hK => ?_
      try simp only [go_sem, seval]
      repeat (first | (refine And.intro ?_ ?_; · first | exact ⟨rfl, by simp [AV.sz, AV.memOK]⟩ | exact ⟨by simp, .inr trivial, by have := hS.len; omega, by have := hS.len; omega⟩ | exact ⟨by simp, trivial, by have := hS.len; omega, by have := hS.len; omega⟩) | refine peel ?_)
      refine hK _ _ _ ?_; clear hK K
      refine awp_ret ?_
      try simp only [go_sem, seval]
      refine ⟨_, rfl, hS.low, .osl hS.buf (by omega) (by simp) ?_⟩
      rw [List.drop_zero, List.take_of_length_le (by simp), hfin]
      exact frzL_kl _ (kls0_bytes _ _)
   ·skip
    have h4 : ¬ c.kind = 4 := by simpa using hb
    refine awp_seq_jl [1, 3, 27, 111] (fun T' H' n' => ∃ ver bs, bs = hdrB c ∧ T' = tl [(1, .loc n 0 0 0 []), (3, .osl (n + 1) ver 0 bs.length), (27, .int .i64 c.kind), (111, .bool (c.kind == 5 || c.kind == 6))] ∧ LS H n [(n, .arr 0 17 [cmdAV c])] (n + 1) ver (21) bs H' n') ?_ ?_
    ·skip
     refine awp_reg zs [1, 3, 27, 111] fun K hK => ?_
     try simp only [go_sem, seval, cmdAV, bys]
     repeat (first | (refine And.intro ?_ ?_; · first | exact ⟨rfl, by simp [AV.sz, AV.memOK]⟩ | exact ⟨by simp, .inr trivial, by have := hS.len; omega, by have := hS.len; omega⟩ | exact ⟨by simp, trivial, by have := hS.len; omega, by have := hS.len; omega⟩) | refine peel ?_)
     refine hK _ _ _ ?_; clear hK K
     refine awp_cnd (fun hb => ?_) (fun hb => ?_)
     ·skip
      try have hfin : bs ++ uintB (u64 c.n) = cmdB c := by rw [hbs, cmdB_eq h1 h7]; have h56 : c.kind = 5 ∨ c.kind = 6 := (by simpa using hb); rcases h56 with h | h <;> simp [h, kOps, kLeast, kQuery]
      refine awp_skip ?_
      try simp only [go_sem, seval, cmdAV, bys]
      exact ⟨ver, bs, hbs, by simp [hb], hS⟩
     ·skip
      refine awp_reg1 zs [1, 3, 27, 111] fun K hK => ?_
      try simp only [go_sem, seval, cmdAV, bys]
      repeat (first | (refine And.intro ?_ ?_; · first | exact ⟨rfl, by simp [AV.sz, AV.memOK]⟩ | exact ⟨by simp, .inr trivial, by have := hS.len; omega, by have := hS.len; omega⟩ | exact ⟨by simp, trivial, by have := hS.len; omega, by have := hS.len; omega⟩) | refine peel ?_)
      refine hK _ _ _ ?_; clear hK K
      try simp only [go_sem, seval, cmdAV, bys]
      exact ⟨ver, bs, hbs, by simp [hb], hS⟩
    rintro T1 H1 n1 ⟨ver, bs, hbs, rfl, hS⟩
    have r1 := hS.get n (.arr 0 17 [cmdAV c]) (by simp); have rB := hS.buf
    refine awp_cnd (fun hb => ?_) (fun hb => ?_)
    ·skip
     try have hfin : bs ++ uintB (u64 c.n) = cmdB c := by rw [hbs, cmdB_eq h1 h7]; have h56 : c.kind = 5 ∨ c.kind = 6 := (by simpa using hb); rcases h56 with h | h <;> simp [h, kOps, kLeast, kQuery]
     refine awp_reg1 zs [3] fun K hK => ?_
     try simp only [go_sem, seval, cmdAV, r1, bys]
     repeat (first | (refine And.intro ?_ ?_; · first | exact ⟨rfl, by simp [AV.sz, AV.memOK]⟩ | exact ⟨by simp, .inr trivial, by have := hS.len; omega, by have := hS.len; omega⟩ | exact ⟨by simp, trivial, by have := hS.len; omega, by have := hS.len; omega⟩) | refine peel ?_)
     refine callK_use Tryz.func88 rfl rfl rfl ((c_ref14_add hS.buf (c.n) (by have := hS.len; have := hc.row; have := hc.frm; have := hc.to; have := hc.pre; have := hc.whr; have := hc.token; have := hc.conds; have := hc.ops; have := hc.fams; omega))) ?_
     try simp only [go_sem, seval]
     repeat (first | (refine And.intro ?_ ?_; · first | exact ⟨rfl, by simp [AV.sz, AV.memOK]⟩ | exact ⟨by simp, .inr trivial, by have := hS.len; omega, by have := hS.len; omega⟩ | exact ⟨by simp, trivial, by have := hS.len; omega, by have := hS.len; omega⟩) | refine peel ?_)
     refine hK _ _ _ ?_; clear hK K
     try simp only [go_sem, seval]
     refine hK2 _ _ _ ?_
     first | clear hK2 K2 | skip
     refine awp_sel [3] ?_
     simp only [go_sem, seval]
     first | refine awp_genT (fun T' H' n' => ∃ ver bs, bs = cmdB c ∧ T' = tl [(3, .osl (n + 1) ver 0 bs.length)] ∧ LS H n [(n, .arr 0 17 [cmdAV c])] (n + 1) ver (7000200000000) bs H' n') ⟨_, bs, hfin, rfl, hS.up (by have := hc.row; have := hc.frm; have := hc.to; have := hc.pre; have := hc.whr; have := hc.token; have := hc.conds; have := hc.ops; have := hc.fams; omega)⟩ ?_ | refine awp_genT (fun T' H' n' => ∃ ver bs, bs = cmdB c ∧ T' = tl [(3, .osl (n + 1) ver 0 bs.length)] ∧ LS H n [(n, .arr 0 17 [cmdAV c])] (n + 1) ver (7000200000000) bs H' n') ⟨_, bs ++ uintB (u64 c.n), hfin, rfl, ((hS.put (hS.lu (c.n))).up (by have := hc.row; have := hc.frm; have := hc.to; have := hc.pre; have := hc.whr; have := hc.token; have := hc.conds; have := hc.ops; have := hc.fams; omega))⟩ ?_ | refine awp_genT (fun T' H' n' => ∃ ver bs, bs = cmdB c ∧ T' = tl [(3, .osl (n + 1) ver 0 bs.length)] ∧ LS H n [(n, .arr 0 17 [cmdAV c])] (n + 1) ver (7000200000000) bs H' n') ⟨_, bs ++ bytesB c.q.token, by rw [hbs, cmdB_eq h1 h7]; simp [hk7, kOps, kLeast, kQuery, qryB], rfl, (((hS.put (hS.lby (c.q.token) (by have := hc.row; have := hc.frm; have := hc.to; have := hc.pre; have := hc.whr; have := hc.token; have := hc.conds; have := hc.ops; have := hc.fams; omega))).up (by have := hc.row; have := hc.frm; have := hc.to; have := hc.pre; have := hc.whr; have := hc.token; have := hc.conds; have := hc.ops; have := hc.fams; omega))).drop⟩ ?_
     rintro T1 H1 n1 ⟨ver, bs, hfin, rfl, hS⟩
     refine awp_reg zs [2] fun K hK => ?_
     try simp only [go_sem, seval]
     repeat (first | (refine And.intro ?_ ?_; · first | exact ⟨rfl, by simp [AV.sz, AV.memOK]⟩ | exact ⟨by simp, .inr trivial, by have := hS.len; omega, by have := hS.len; omega⟩ | exact ⟨by simp, trivial, by have := hS.len; omega, by have := hS.len; omega⟩) | refine peel ?_)
     refine hK _ _ _ ?_; clear hK K
     refine awp_ret ?_
     try simp only [go_sem, seval]
     refine ⟨_, rfl, hS.low, .osl hS.buf (by omega) (by simp) ?_⟩
     rw [List.drop_zero, List.take_of_length_le (by simp), hfin]
     exact frzL_kl _ (kls0_bytes _ _)
    ·skip
     refine awp_reg zs [1, 3, 118] fun K hK => ?_
     try simp only [go_sem, seval]
     repeat (first | (refine And.intro ?_ ?_; · first | exact ⟨rfl, by simp [AV.sz, AV.memOK]⟩ | exact ⟨by simp, .inr trivial, by have := hS.len; omega, by have := hS.len; omega⟩ | exact ⟨by simp, trivial, by have := hS.len; omega, by have := hS.len; omega⟩) | refine peel ?_)
     refine hK _ _ _ ?_; clear hK K
     refine awp_cnd (fun hb => ?_) (fun hb => ?_)
     ·skip
      have hk7 : c.kind = 7 := by simpa using hb
      refine awp_reg zs [3, 8] fun K hK => ?_
      try simp only [go_sem, seval, cmdAV, hsz, haq, hmq, r1, bys]
      repeat (first | (refine And.intro ?_ ?_; · first | exact ⟨rfl, by simp [AV.sz, AV.memOK]⟩ | exact ⟨by simp, .inr trivial, by have := hS.len; omega, by have := hS.len; omega⟩ | exact ⟨by simp, trivial, by have := hS.len; omega, by have := hS.len; omega⟩) | refine peel ?_)
      refine hK _ _ _ ?_; clear hK K
      refine awp_genT (fun T' H' n' => ∃ kq ver bs, bs = hdrB c ∧ T' = tl [(3, .osl (n + 1) ver 0 bs.length), (8, .loc kq 0 0 0 [])] ∧ LS H n [(kq, .arr 0 10 [qryAV c.q]), (n, .arr 0 17 [cmdAV c])] (n + 1) ver (21) bs H' n') ⟨n1, ver, bs, hbs, rfl, hS.newObj _⟩ ?_
      rintro T1 H1 n1 ⟨kq, ver, bs, hbs, rfl, hS⟩
      have r1 := hS.get n (.arr 0 17 [cmdAV c]) (by simp); have rB := hS.buf
      have r6 := hS.get kq (.arr 0 10 [qryAV c.q]) (by simp)
      refine awp_reg zs [3, 8] fun K hK => ?_
      try simp only [go_sem, seval, r6, bys, qryAV, numsAV]
      repeat (first | (refine And.intro ?_ ?_; · first | exact ⟨rfl, by simp [AV.sz, AV.memOK]⟩ | exact ⟨by simp, .inr trivial, by have := hS.len; omega, by have := hS.len; omega⟩ | exact ⟨by simp, trivial, by have := hS.len; omega, by have := hS.len; omega⟩) | refine peel ?_)
      refine callK_use Tryz.func90 rfl rfl rfl ((c_ref14_put hS.buf (c.q.frm) (by have := hc.row; have := hc.frm; have := hc.to; have := hc.pre; have := hc.whr; have := hc.token; have := hc.conds; have := hc.ops; have := hc.fams; omega) (by have := hS.len; have := hc.row; have := hc.frm; have := hc.to; have := hc.pre; have := hc.whr; have := hc.token; have := hc.conds; have := hc.ops; have := hc.fams; omega))) ?_
      try simp only [go_sem, seval]
      repeat (first | (refine And.intro ?_ ?_; · first | exact ⟨rfl, by simp [AV.sz, AV.memOK]⟩ | exact ⟨by simp, .inr trivial, by have := hS.len; omega, by have := hS.len; omega⟩ | exact ⟨by simp, trivial, by have := hS.len; omega, by have := hS.len; omega⟩) | refine peel ?_)
      refine hK _ _ _ ?_; clear hK K
      refine awp_genT (fun T' H' n' => ∃ ver bs, bs = hdrB c ++ bytesB c.q.frm ∧ T' = tl [(3, .osl (n + 1) ver 0 bs.length), (8, .loc kq 0 0 0 [])] ∧ LS H n [(kq, .arr 0 10 [qryAV c.q]), (n, .arr 0 17 [cmdAV c])] (n + 1) ver (2000000) bs H' n') ⟨_, bs ++ bytesB c.q.frm, by rw [hbs], rfl, ((hS.put (hS.lby (c.q.frm) (by have := hc.row; have := hc.frm; have := hc.to; have := hc.pre; have := hc.whr; have := hc.token; have := hc.conds; have := hc.ops; have := hc.fams; omega))).up (by have := hc.row; have := hc.frm; have := hc.to; have := hc.pre; have := hc.whr; have := hc.token; have := hc.conds; have := hc.ops; have := hc.fams; omega))⟩ ?_
      rintro T1 H1 n1 ⟨ver, bs, hbs, rfl, hS⟩
      have r1 := hS.get n (.arr 0 17 [cmdAV c]) (by simp); have rB := hS.buf
      have r6 := hS.get kq (.arr 0 10 [qryAV c.q]) (by simp)
      refine awp_reg zs [3, 8] fun K hK => ?_
      try simp only [go_sem, seval, r6, bys, qryAV, numsAV]
      repeat (first | (refine And.intro ?_ ?_; · first | exact ⟨rfl, by simp [AV.sz, AV.memOK]⟩ | exact ⟨by simp, .inr trivial, by have := hS.len; omega, by have := hS.len; omega⟩ | exact ⟨by simp, trivial, by have := hS.len; omega, by have := hS.len; omega⟩) | refine peel ?_)
      refine callK_use Tryz.func90 rfl rfl rfl ((c_ref14_put hS.buf (c.q.to) (by have := hc.row; have := hc.frm; have := hc.to; have := hc.pre; have := hc.whr; have := hc.token; have := hc.conds; have := hc.ops; have := hc.fams; omega) (by have := hS.len; have := hc.row; have := hc.frm; have := hc.to; have := hc.pre; have := hc.whr; have := hc.token; have := hc.conds; have := hc.ops; have := hc.fams; omega))) ?_
      try simp only [go_sem, seval]
      repeat (first | (refine And.intro ?_ ?_; · first | exact ⟨rfl, by simp [AV.sz, AV.memOK]⟩ | exact ⟨by simp, .inr trivial, by have := hS.len; omega, by have := hS.len; omega⟩ | exact ⟨by simp, trivial, by have := hS.len; omega, by have := hS.len; omega⟩) | refine peel ?_)
      refine hK _ _ _ ?_; clear hK K
      refine awp_genT (fun T' H' n' => ∃ ver bs, bs = hdrB c ++ bytesB c.q.frm ++ bytesB c.q.to ∧ T' = tl [(3, .osl (n + 1) ver 0 bs.length), (8, .loc kq 0 0 0 [])] ∧ LS H n [(kq, .arr 0 10 [qryAV c.q]), (n, .arr 0 17 [cmdAV c])] (n + 1) ver (4000000) bs H' n') ⟨_, bs ++ bytesB c.q.to, by rw [hbs], rfl, ((hS.put (hS.lby (c.q.to) (by have := hc.row; have := hc.frm; have := hc.to; have := hc.pre; have := hc.whr; have := hc.token; have := hc.conds; have := hc.ops; have := hc.fams; omega))).up (by have := hc.row; have := hc.frm; have := hc.to; have := hc.pre; have := hc.whr; have := hc.token; have := hc.conds; have := hc.ops; have := hc.fams; omega))⟩ ?_
      rintro T1 H1 n1 ⟨ver, bs, hbs, rfl, hS⟩
      have r1 := hS.get n (.arr 0 17 [cmdAV c]) (by simp); have rB := hS.buf
      have r6 := hS.get kq (.arr 0 10 [qryAV c.q]) (by simp)
      refine awp_reg zs [3, 8] fun K hK => ?_
      try simp only [go_sem, seval, r6, List.length_map, bys, qryAV, numsAV]
      repeat (first | (refine And.intro ?_ ?_; · first | exact ⟨rfl, by simp [AV.sz, AV.memOK]⟩ | exact ⟨by simp, .inr trivial, by have := hS.len; omega, by have := hS.len; omega⟩ | exact ⟨by simp, trivial, by have := hS.len; omega, by have := hS.len; omega⟩) | refine peel ?_)
      refine callK_use Tryz.func88 rfl rfl rfl ((c_ref14_add hS.buf (c.q.fams.length) (by have := hS.len; have := hc.row; have := hc.frm; have := hc.to; have := hc.pre; have := hc.whr; have := hc.token; have := hc.conds; have := hc.ops; have := hc.fams; omega))) ?_
      try simp only [go_sem, seval]
      repeat (first | (refine And.intro ?_ ?_; · first | exact ⟨rfl, by simp [AV.sz, AV.memOK]⟩ | exact ⟨by simp, .inr trivial, by have := hS.len; omega, by have := hS.len; omega⟩ | exact ⟨by simp, trivial, by have := hS.len; omega, by have := hS.len; omega⟩) | refine peel ?_)
      refine hK _ _ _ ?_; clear hK K
      refine awp_seq_k fun K8 hK8 => ?_
      refine awp_genT (fun T' H' n' => ∃ ver bs, bs = hdrB c ++ bytesB c.q.frm ++ bytesB c.q.to ++ uintB c.q.fams.length ∧ T' = tl [(3, .osl (n + 1) ver 0 bs.length), (8, .loc kq 0 0 0 [])] ∧ LS H n [(kq, .arr 0 10 [qryAV c.q]), (n, .arr 0 17 [cmdAV c])] (n + 1) ver (4000010) bs H' n') ⟨_, bs ++ uintB (u64 (c.q.fams.length)), by rw [hbs, huf], rfl, ((hS.put (hS.lu (c.q.fams.length))).up (by have := hc.row; have := hc.frm; have := hc.to; have := hc.pre; have := hc.whr; have := hc.token; have := hc.conds; have := hc.ops; have := hc.fams; omega))⟩ ?_
      rintro T1 H1 n1 ⟨ver, bs, hbs, rfl, hS⟩
      have r1 := hS.get n (.arr 0 17 [cmdAV c]) (by simp); have rB := hS.buf
      have r6 := hS.get kq (.arr 0 10 [qryAV c.q]) (by simp)
      refine awp_reg zs [3, 8, 9] fun K hK => ?_
      try simp only [go_sem, seval]
      repeat (first | (refine And.intro ?_ ?_; · first | exact ⟨rfl, by simp [AV.sz, AV.memOK]⟩ | exact ⟨by simp, .inr trivial, by have := hS.len; omega, by have := hS.len; omega⟩ | exact ⟨by simp, trivial, by have := hS.len; omega, by have := hS.len; omega⟩) | refine peel ?_)
      refine hK _ _ _ ?_; clear hK K
      refine awp_block ?_
      refine awp_loop (fun T' H' n' => ∃ i : Nat, i ≤ c.q.fams.length ∧ ∃ ver bs, bs = hdrB c ++ bytesB c.q.frm ++ bytesB c.q.to ++ uintB c.q.fams.length ++ (c.q.fams.take i).flatMap (fun f => uintB (u64 f)) ∧ T' = tl [(3, .osl (n + 1) ver 0 bs.length), (8, .loc kq 0 0 0 []), (9, .int .i64 i)] ∧ LS H n [(kq, .arr 0 10 [qryAV c.q]), (n, .arr 0 17 [cmdAV c])] (n + 1) ver (4000010 + 10 * i) bs H' n') (fun T' _ _ => c.q.fams.length - iv (T' 9)) ?_ ?_
      ·skip
       exact ⟨0, by omega, ver, bs, by rw [hbs]; simp, rfl, hS.up (by omega)⟩
      intro T1 H1 n1
      rintro ⟨i, hi, ver, bs, hbs, rfl, hS⟩
      have r1 := hS.get n (.arr 0 17 [cmdAV c]) (by simp); have rB := hS.buf
      have r6 := hS.get kq (.arr 0 10 [qryAV c.q]) (by simp)
      refine awp_seq_k fun K9 hK9 => ?_
      refine awp_reg zs [3, 8, 9, 139] fun K hK => ?_
      try simp only [go_sem, seval, cmdAV, r6, List.length_map, bys, qryAV, numsAV]
      repeat (first | (refine And.intro ?_ ?_; · first | exact ⟨rfl, by simp [AV.sz, AV.memOK]⟩ | exact ⟨by simp, .inr trivial, by have := hS.len; omega, by have := hS.len; omega⟩ | exact ⟨by simp, trivial, by have := hS.len; omega, by have := hS.len; omega⟩) | refine peel ?_)
      refine hK _ _ _ ?_; clear hK K
      refine awp_cnd (fun hb => ?_) (fun hb => ?_)
      ·skip
       have hlt : i < c.q.fams.length := by have := of_decide_eq_true hb; omega
       have hil := hc.fams
       have hfl := flatMap_take (fun f => uintB (u64 f)) c.q.fams hlt
       have hnth : nth (c.q.fams.map fun n => AV.int .i64 n) i = .int .i64 (c.q.fams.getD i default) := nth_map (fun n => AV.int .i64 n) c.q.fams i hlt
       refine awp_skip ?_
       try simp only [go_sem, seval, cmdAV, bys]
       refine hK9 _ _ _ ?_
       first | clear hK9 K9 | skip
       refine awp_seq_k fun K10 hK10 => ?_
       refine awp_block ?_
       refine awp_reg1 zs [3, 8, 9] fun K hK => ?_
       try simp only [go_sem, seval, cmdAV, r6, List.length_map, bys, qryAV, numsAV, Int.toNat_natCast, hnth]
       repeat (first | (refine And.intro ?_ ?_; · first | exact ⟨rfl, by simp [AV.sz, AV.memOK]⟩ | exact ⟨by simp, .inr trivial, by have := hS.len; omega, by have := hS.len; omega⟩ | exact ⟨by simp, trivial, by have := hS.len; omega, by have := hS.len; omega⟩) | refine peel ?_)
       refine callK_use Tryz.func88 rfl rfl rfl ((c_ref14_add hS.buf (c.q.fams.getD i default) (by have := hS.len; have := hc.row; have := hc.frm; have := hc.to; have := hc.pre; have := hc.whr; have := hc.token; have := hc.conds; have := hc.ops; have := hc.fams; omega))) ?_
       try simp only [go_sem, seval]
       repeat (first | (refine And.intro ?_ ?_; · first | exact ⟨rfl, by simp [AV.sz, AV.memOK]⟩ | exact ⟨by simp, .inr trivial, by have := hS.len; omega, by have := hS.len; omega⟩ | exact ⟨by simp, trivial, by have := hS.len; omega, by have := hS.len; omega⟩) | refine peel ?_)
       refine hK _ _ _ ?_; clear hK K
       try simp only [go_sem, seval, cmdAV, bys]
       refine hK10 _ _ _ ?_
       first | clear hK10 K10 | skip
       refine awp_reg1 zs [3, 8, 9] fun K hK => ?_
       try simp only [go_sem, seval, cmdAV, bys]
       repeat (first | (refine And.intro ?_ ?_; · first | exact ⟨rfl, by simp [AV.sz, AV.memOK]⟩ | exact ⟨by simp, .inr trivial, by have := hS.len; omega, by have := hS.len; omega⟩ | exact ⟨by simp, trivial, by have := hS.len; omega, by have := hS.len; omega⟩) | refine peel ?_)
       refine hK _ _ _ ?_; clear hK K
       try simp only [go_sem, seval, cmdAV, bys]
       refine ⟨⟨i + 1, by omega, _, bs ++ uintB (u64 (c.q.fams.getD i default)), by rw [hbs, hfl]; simp, by rw [w1 (by omega)], ((hS.put (hS.lu (c.q.fams.getD i default))).up (by omega))⟩, by rw [w1 (by omega)]; simp; omega⟩
      ·skip
       have hge : i = c.q.fams.length := by have := of_decide_eq_false hb; omega
       have hil := hc.fams
       rw [flatMap_all (fun f => uintB (u64 f)) c.q.fams (by omega)] at hbs
       refine awp_exit ?_
       try simp only [go_sem, seval, cmdAV, bys]
       refine hK8 _ _ _ ?_
       first | clear hK8 K8 | skip
       refine awp_reg zs [3, 8] fun K hK => ?_
       try simp only [go_sem, seval, r6, bys, qryAV, numsAV]
       repeat (first | (refine And.intro ?_ ?_; · first | exact ⟨rfl, by simp [AV.sz, AV.memOK]⟩ | exact ⟨by simp, .inr trivial, by have := hS.len; omega, by have := hS.len; omega⟩ | exact ⟨by simp, trivial, by have := hS.len; omega, by have := hS.len; omega⟩) | refine peel ?_)
       refine callK_use Tryz.func90 rfl rfl rfl ((c_ref14_put hS.buf (c.q.pre) (by have := hc.row; have := hc.frm; have := hc.to; have := hc.pre; have := hc.whr; have := hc.token; have := hc.conds; have := hc.ops; have := hc.fams; omega) (by have := hS.len; have := hc.row; have := hc.frm; have := hc.to; have := hc.pre; have := hc.whr; have := hc.token; have := hc.conds; have := hc.ops; have := hc.fams; omega))) ?_
       try simp only [go_sem, seval]
       repeat (first | (refine And.intro ?_ ?_; · first | exact ⟨rfl, by simp [AV.sz, AV.memOK]⟩ | exact ⟨by simp, .inr trivial, by have := hS.len; omega, by have := hS.len; omega⟩ | exact ⟨by simp, trivial, by have := hS.len; omega, by have := hS.len; omega⟩) | refine peel ?_)
       refine hK _ _ _ ?_; clear hK K
       refine awp_genT (fun T' H' n' => ∃ ver bs, bs = hdrB c ++ bytesB c.q.frm ++ bytesB c.q.to ++ uintB c.q.fams.length ++ c.q.fams.flatMap (fun f => uintB (u64 f)) ++ bytesB c.q.pre ∧ T' = tl [(3, .osl (n + 1) ver 0 bs.length), (8, .loc kq 0 0 0 [])] ∧ LS H n [(kq, .arr 0 10 [qryAV c.q]), (n, .arr 0 17 [cmdAV c])] (n + 1) ver (17000000) bs H' n') ⟨_, bs ++ bytesB c.q.pre, by rw [hbs], rfl, ((hS.put (hS.lby (c.q.pre) (by have := hc.row; have := hc.frm; have := hc.to; have := hc.pre; have := hc.whr; have := hc.token; have := hc.conds; have := hc.ops; have := hc.fams; omega))).up (by have := hc.row; have := hc.frm; have := hc.to; have := hc.pre; have := hc.whr; have := hc.token; have := hc.conds; have := hc.ops; have := hc.fams; omega))⟩ ?_
       rintro T1 H1 n1 ⟨ver, bs, hbs, rfl, hS⟩
       have r1 := hS.get n (.arr 0 17 [cmdAV c]) (by simp); have rB := hS.buf
       have r6 := hS.get kq (.arr 0 10 [qryAV c.q]) (by simp)
       refine awp_reg zs [3, 8] fun K hK => ?_
       try simp only [go_sem, seval, r6, bys, qryAV, numsAV]
       repeat (first | (refine And.intro ?_ ?_; · first | exact ⟨rfl, by simp [AV.sz, AV.memOK]⟩ | exact ⟨by simp, .inr trivial, by have := hS.len; omega, by have := hS.len; omega⟩ | exact ⟨by simp, trivial, by have := hS.len; omega, by have := hS.len; omega⟩) | refine peel ?_)
       refine callK_use Tryz.func88 rfl rfl rfl ((c_ref14_add hS.buf (c.q.time) (by have := hS.len; have := hc.row; have := hc.frm; have := hc.to; have := hc.pre; have := hc.whr; have := hc.token; have := hc.conds; have := hc.ops; have := hc.fams; omega))) ?_
       try simp only [go_sem, seval]
       repeat (first | (refine And.intro ?_ ?_; · first | exact ⟨rfl, by simp [AV.sz, AV.memOK]⟩ | exact ⟨by simp, .inr trivial, by have := hS.len; omega, by have := hS.len; omega⟩ | exact ⟨by simp, trivial, by have := hS.len; omega, by have := hS.len; omega⟩) | refine peel ?_)
       refine hK _ _ _ ?_; clear hK K
       refine awp_genT (fun T' H' n' => ∃ ver bs, bs = hdrB c ++ bytesB c.q.frm ++ bytesB c.q.to ++ uintB c.q.fams.length ++ c.q.fams.flatMap (fun f => uintB (u64 f)) ++ bytesB c.q.pre ++ uintB (u64 (c.q.time)) ∧ T' = tl [(3, .osl (n + 1) ver 0 bs.length), (8, .loc kq 0 0 0 [])] ∧ LS H n [(kq, .arr 0 10 [qryAV c.q]), (n, .arr 0 17 [cmdAV c])] (n + 1) ver (17000100) bs H' n') ⟨_, bs ++ uintB (u64 (c.q.time)), by rw [hbs], rfl, ((hS.put (hS.lu (c.q.time))).up (by have := hc.row; have := hc.frm; have := hc.to; have := hc.pre; have := hc.whr; have := hc.token; have := hc.conds; have := hc.ops; have := hc.fams; omega))⟩ ?_
       rintro T1 H1 n1 ⟨ver, bs, hbs, rfl, hS⟩
       have r1 := hS.get n (.arr 0 17 [cmdAV c]) (by simp); have rB := hS.buf
       have r6 := hS.get kq (.arr 0 10 [qryAV c.q]) (by simp)
       refine awp_reg zs [3, 8] fun K hK => ?_
       try simp only [go_sem, seval, r6, bys, qryAV, numsAV]
       repeat (first | (refine And.intro ?_ ?_; · first | exact ⟨rfl, by simp [AV.sz, AV.memOK]⟩ | exact ⟨by simp, .inr trivial, by have := hS.len; omega, by have := hS.len; omega⟩ | exact ⟨by simp, trivial, by have := hS.len; omega, by have := hS.len; omega⟩) | refine peel ?_)
       refine callK_use Tryz.func88 rfl rfl rfl ((c_ref14_add hS.buf (c.q.n) (by have := hS.len; have := hc.row; have := hc.frm; have := hc.to; have := hc.pre; have := hc.whr; have := hc.token; have := hc.conds; have := hc.ops; have := hc.fams; omega))) ?_
       try simp only [go_sem, seval]
       repeat (first | (refine And.intro ?_ ?_; · first | exact ⟨rfl, by simp [AV.sz, AV.memOK]⟩ | exact ⟨by simp, .inr trivial, by have := hS.len; omega, by have := hS.len; omega⟩ | exact ⟨by simp, trivial, by have := hS.len; omega, by have := hS.len; omega⟩) | refine peel ?_)
       refine hK _ _ _ ?_; clear hK K
       refine awp_genT (fun T' H' n' => ∃ ver bs, bs = hdrB c ++ bytesB c.q.frm ++ bytesB c.q.to ++ uintB c.q.fams.length ++ c.q.fams.flatMap (fun f => uintB (u64 f)) ++ bytesB c.q.pre ++ uintB (u64 (c.q.time)) ++ uintB (u64 (c.q.n)) ∧ T' = tl [(3, .osl (n + 1) ver 0 bs.length), (8, .loc kq 0 0 0 [])] ∧ LS H n [(kq, .arr 0 10 [qryAV c.q]), (n, .arr 0 17 [cmdAV c])] (n + 1) ver (17000200) bs H' n') ⟨_, bs ++ uintB (u64 (c.q.n)), by rw [hbs], rfl, ((hS.put (hS.lu (c.q.n))).up (by have := hc.row; have := hc.frm; have := hc.to; have := hc.pre; have := hc.whr; have := hc.token; have := hc.conds; have := hc.ops; have := hc.fams; omega))⟩ ?_
       rintro T1 H1 n1 ⟨ver, bs, hbs, rfl, hS⟩
       have r1 := hS.get n (.arr 0 17 [cmdAV c]) (by simp); have rB := hS.buf
       have r6 := hS.get kq (.arr 0 10 [qryAV c.q]) (by simp)
       refine awp_reg zs [3, 8] fun K hK => ?_
       try simp only [go_sem, seval, r6, bys, qryAV, numsAV]
       repeat (first | (refine And.intro ?_ ?_; · first | exact ⟨rfl, by simp [AV.sz, AV.memOK]⟩ | exact ⟨by simp, .inr trivial, by have := hS.len; omega, by have := hS.len; omega⟩ | exact ⟨by simp, trivial, by have := hS.len; omega, by have := hS.len; omega⟩) | refine peel ?_)
       refine callK_use Tryz.func88 rfl rfl rfl ((c_ref14_add hS.buf (c.q.rows) (by have := hS.len; have := hc.row; have := hc.frm; have := hc.to; have := hc.pre; have := hc.whr; have := hc.token; have := hc.conds; have := hc.ops; have := hc.fams; omega))) ?_
       try simp only [go_sem, seval]
       repeat (first | (refine And.intro ?_ ?_; · first | exact ⟨rfl, by simp [AV.sz, AV.memOK]⟩ | exact ⟨by simp, .inr trivial, by have := hS.len; omega, by have := hS.len; omega⟩ | exact ⟨by simp, trivial, by have := hS.len; omega, by have := hS.len; omega⟩) | refine peel ?_)
       refine hK _ _ _ ?_; clear hK K
       refine awp_genT (fun T' H' n' => ∃ ver bs, bs = hdrB c ++ bytesB c.q.frm ++ bytesB c.q.to ++ uintB c.q.fams.length ++ c.q.fams.flatMap (fun f => uintB (u64 f)) ++ bytesB c.q.pre ++ uintB (u64 (c.q.time)) ++ uintB (u64 (c.q.n)) ++ uintB (u64 (c.q.rows)) ∧ T' = tl [(3, .osl (n + 1) ver 0 bs.length), (8, .loc kq 0 0 0 [])] ∧ LS H n [(kq, .arr 0 10 [qryAV c.q]), (n, .arr 0 17 [cmdAV c])] (n + 1) ver (17000300) bs H' n') ⟨_, bs ++ uintB (u64 (c.q.rows)), by rw [hbs], rfl, ((hS.put (hS.lu (c.q.rows))).up (by have := hc.row; have := hc.frm; have := hc.to; have := hc.pre; have := hc.whr; have := hc.token; have := hc.conds; have := hc.ops; have := hc.fams; omega))⟩ ?_
       rintro T1 H1 n1 ⟨ver, bs, hbs, rfl, hS⟩
       have r1 := hS.get n (.arr 0 17 [cmdAV c]) (by simp); have rB := hS.buf
       have r6 := hS.get kq (.arr 0 10 [qryAV c.q]) (by simp)
       refine awp_reg zs [3, 8] fun K hK => ?_
       try simp only [go_sem, seval, r6, bys, qryAV, numsAV]
       repeat (first | (refine And.intro ?_ ?_; · first | exact ⟨rfl, by simp [AV.sz, AV.memOK]⟩ | exact ⟨by simp, .inr trivial, by have := hS.len; omega, by have := hS.len; omega⟩ | exact ⟨by simp, trivial, by have := hS.len; omega, by have := hS.len; omega⟩) | refine peel ?_)
       refine callK_use Tryz.func89 rfl rfl rfl ((c_ref14_flag hS.buf (c.q.rev) (by have := hS.len; have := hc.row; have := hc.frm; have := hc.to; have := hc.pre; have := hc.whr; have := hc.token; have := hc.conds; have := hc.ops; have := hc.fams; omega))) ?_
       try simp only [go_sem, seval]
       repeat (first | (refine And.intro ?_ ?_; · first | exact ⟨rfl, by simp [AV.sz, AV.memOK]⟩ | exact ⟨by simp, .inr trivial, by have := hS.len; omega, by have := hS.len; omega⟩ | exact ⟨by simp, trivial, by have := hS.len; omega, by have := hS.len; omega⟩) | refine peel ?_)
       refine hK _ _ _ ?_; clear hK K
       refine awp_genT (fun T' H' n' => ∃ ver bs, bs = hdrB c ++ bytesB c.q.frm ++ bytesB c.q.to ++ uintB c.q.fams.length ++ c.q.fams.flatMap (fun f => uintB (u64 f)) ++ bytesB c.q.pre ++ uintB (u64 (c.q.time)) ++ uintB (u64 (c.q.n)) ++ uintB (u64 (c.q.rows)) ++ flagB c.q.rev ∧ T' = tl [(3, .osl (n + 1) ver 0 bs.length), (8, .loc kq 0 0 0 [])] ∧ LS H n [(kq, .arr 0 10 [qryAV c.q]), (n, .arr 0 17 [cmdAV c])] (n + 1) ver (17000400) bs H' n') ⟨_, bs ++ flagB c.q.rev, by rw [hbs], rfl, ((hS.put (hS.l1 (flagB c.q.rev))).up (by show _ + 1 ≤ _; omega))⟩ ?_
       rintro T1 H1 n1 ⟨ver, bs, hbs, rfl, hS⟩
       have r1 := hS.get n (.arr 0 17 [cmdAV c]) (by simp); have rB := hS.buf
       have r6 := hS.get kq (.arr 0 10 [qryAV c.q]) (by simp)
       refine awp_reg zs [3, 8] fun K hK => ?_
       try simp only [go_sem, seval, r6, bys, qryAV, numsAV]
       repeat (first | (refine And.intro ?_ ?_; · first | exact ⟨rfl, by simp [AV.sz, AV.memOK]⟩ | exact ⟨by simp, .inr trivial, by have := hS.len; omega, by have := hS.len; omega⟩ | exact ⟨by simp, trivial, by have := hS.len; omega, by have := hS.len; omega⟩) | refine peel ?_)
       refine callK_use Tryz.func90 rfl rfl rfl ((c_ref14_put hS.buf (c.q.whr) (by have := hc.row; have := hc.frm; have := hc.to; have := hc.pre; have := hc.whr; have := hc.token; have := hc.conds; have := hc.ops; have := hc.fams; omega) (by have := hS.len; have := hc.row; have := hc.frm; have := hc.to; have := hc.pre; have := hc.whr; have := hc.token; have := hc.conds; have := hc.ops; have := hc.fams; omega))) ?_
       try simp only [go_sem, seval]
       repeat (first | (refine And.intro ?_ ?_; · first | exact ⟨rfl, by simp [AV.sz, AV.memOK]⟩ | exact ⟨by simp, .inr trivial, by have := hS.len; omega, by have := hS.len; omega⟩ | exact ⟨by simp, trivial, by have := hS.len; omega, by have := hS.len; omega⟩) | refine peel ?_)
       refine hK _ _ _ ?_; clear hK K
       refine awp_genT (fun T' H' n' => ∃ ver bs, bs = hdrB c ++ bytesB c.q.frm ++ bytesB c.q.to ++ uintB c.q.fams.length ++ c.q.fams.flatMap (fun f => uintB (u64 f)) ++ bytesB c.q.pre ++ uintB (u64 (c.q.time)) ++ uintB (u64 (c.q.n)) ++ uintB (u64 (c.q.rows)) ++ flagB c.q.rev ++ bytesB c.q.whr ∧ T' = tl [(3, .osl (n + 1) ver 0 bs.length), (8, .loc kq 0 0 0 [])] ∧ LS H n [(kq, .arr 0 10 [qryAV c.q]), (n, .arr 0 17 [cmdAV c])] (n + 1) ver (19000000) bs H' n') ⟨_, bs ++ bytesB c.q.whr, by rw [hbs], rfl, ((hS.put (hS.lby (c.q.whr) (by have := hc.row; have := hc.frm; have := hc.to; have := hc.pre; have := hc.whr; have := hc.token; have := hc.conds; have := hc.ops; have := hc.fams; omega))).up (by have := hc.row; have := hc.frm; have := hc.to; have := hc.pre; have := hc.whr; have := hc.token; have := hc.conds; have := hc.ops; have := hc.fams; omega))⟩ ?_
       rintro T1 H1 n1 ⟨ver, bs, hbs, rfl, hS⟩
       have r1 := hS.get n (.arr 0 17 [cmdAV c]) (by simp); have rB := hS.buf
       have r6 := hS.get kq (.arr 0 10 [qryAV c.q]) (by simp)
       refine awp_reg1 zs [3] fun K hK => ?_
       try simp only [go_sem, seval, r6, bys, qryAV, numsAV]
       repeat (first | (refine And.intro ?_ ?_; · first | exact ⟨rfl, by simp [AV.sz, AV.memOK]⟩ | exact ⟨by simp, .inr trivial, by have := hS.len; omega, by have := hS.len; omega⟩ | exact ⟨by simp, trivial, by have := hS.len; omega, by have := hS.len; omega⟩) | refine peel ?_)
       refine callK_use Tryz.func90 rfl rfl rfl ((c_ref14_put hS.buf (c.q.token) (by have := hc.row; have := hc.frm; have := hc.to; have := hc.pre; have := hc.whr; have := hc.token; have := hc.conds; have := hc.ops; have := hc.fams; omega) (by have := hS.len; have := hc.row; have := hc.frm; have := hc.to; have := hc.pre; have := hc.whr; have := hc.token; have := hc.conds; have := hc.ops; have := hc.fams; omega))) ?_
       try simp only [go_sem, seval]
       repeat (first | (refine And.intro ?_ ?_; · first | exact ⟨rfl, by simp [AV.sz, AV.memOK]⟩ | exact ⟨by simp, .inr trivial, by have := hS.len; omega, by have := hS.len; omega⟩ | exact ⟨by simp, trivial, by have := hS.len; omega, by have := hS.len; omega⟩) | refine peel ?_)
       refine hK _ _ _ ?_; clear hK K
       try simp only [go_sem, seval]
       refine hK2 _ _ _ ?_
       first | clear hK2 K2 | skip
       refine awp_sel [3] ?_
       simp only [go_sem, seval]
       first | refine awp_genT (fun T' H' n' => ∃ ver bs, bs = cmdB c ∧ T' = tl [(3, .osl (n + 1) ver 0 bs.length)] ∧ LS H n [(n, .arr 0 17 [cmdAV c])] (n + 1) ver (7000200000000) bs H' n') ⟨_, bs, hfin, rfl, hS.up (by have := hc.row; have := hc.frm; have := hc.to; have := hc.pre; have := hc.whr; have := hc.token; have := hc.conds; have := hc.ops; have := hc.fams; omega)⟩ ?_ | refine awp_genT (fun T' H' n' => ∃ ver bs, bs = cmdB c ∧ T' = tl [(3, .osl (n + 1) ver 0 bs.length)] ∧ LS H n [(n, .arr 0 17 [cmdAV c])] (n + 1) ver (7000200000000) bs H' n') ⟨_, bs ++ uintB (u64 c.n), hfin, rfl, ((hS.put (hS.lu (c.n))).up (by have := hc.row; have := hc.frm; have := hc.to; have := hc.pre; have := hc.whr; have := hc.token; have := hc.conds; have := hc.ops; have := hc.fams; omega))⟩ ?_ | refine awp_genT (fun T' H' n' => ∃ ver bs, bs = cmdB c ∧ T' = tl [(3, .osl (n + 1) ver 0 bs.length)] ∧ LS H n [(n, .arr 0 17 [cmdAV c])] (n + 1) ver (7000200000000) bs H' n') ⟨_, bs ++ bytesB c.q.token, by rw [hbs, cmdB_eq h1 h7]; simp [hk7, kOps, kLeast, kQuery, qryB], rfl, (((hS.put (hS.lby (c.q.token) (by have := hc.row; have := hc.frm; have := hc.to; have := hc.pre; have := hc.whr; have := hc.token; have := hc.conds; have := hc.ops; have := hc.fams; omega))).up (by have := hc.row; have := hc.frm; have := hc.to; have := hc.pre; have := hc.whr; have := hc.token; have := hc.conds; have := hc.ops; have := hc.fams; omega))).drop⟩ ?_
       rintro T1 H1 n1 ⟨ver, bs, hfin, rfl, hS⟩
       refine awp_reg zs [2] fun K hK => ?_
       try simp only [go_sem, seval]
       repeat (first | (refine And.intro ?_ ?_; · first | exact ⟨rfl, by simp [AV.sz, AV.memOK]⟩ | exact ⟨by simp, .inr trivial, by have := hS.len; omega, by have := hS.len; omega⟩ | exact ⟨by simp, trivial, by have := hS.len; omega, by have := hS.len; omega⟩) | refine peel ?_)
       refine hK _ _ _ ?_; clear hK K
       refine awp_ret ?_
       try simp only [go_sem, seval]
       refine ⟨_, rfl, hS.low, .osl hS.buf (by omega) (by simp) ?_⟩
       rw [List.drop_zero, List.take_of_length_le (by simp), hfin]
       exact frzL_kl _ (kls0_bytes _ _)
     ·skip
      have hfin : bs = cmdB c := by rw [hbs, cmdB_eq h1 h7]; have h3 : c.kind = 3 := (by simp at *; omega); simp [h3, kOps, kLeast, kQuery]
      refine awp_skip ?_
      try simp only [go_sem, seval]
      refine hK2 _ _ _ ?_
      first | clear hK2 K2 | skip
      refine awp_sel [3] ?_
      simp only [go_sem, seval]
      first | refine awp_genT (fun T' H' n' => ∃ ver bs, bs = cmdB c ∧ T' = tl [(3, .osl (n + 1) ver 0 bs.length)] ∧ LS H n [(n, .arr 0 17 [cmdAV c])] (n + 1) ver (7000200000000) bs H' n') ⟨_, bs, hfin, rfl, hS.up (by have := hc.row; have := hc.frm; have := hc.to; have := hc.pre; have := hc.whr; have := hc.token; have := hc.conds; have := hc.ops; have := hc.fams; omega)⟩ ?_ | refine awp_genT (fun T' H' n' => ∃ ver bs, bs = cmdB c ∧ T' = tl [(3, .osl (n + 1) ver 0 bs.length)] ∧ LS H n [(n, .arr 0 17 [cmdAV c])] (n + 1) ver (7000200000000) bs H' n') ⟨_, bs ++ uintB (u64 c.n), hfin, rfl, ((hS.put (hS.lu (c.n))).up (by have := hc.row; have := hc.frm; have := hc.to; have := hc.pre; have := hc.whr; have := hc.token; have := hc.conds; have := hc.ops; have := hc.fams; omega))⟩ ?_ | refine awp_genT (fun T' H' n' => ∃ ver bs, bs = cmdB c ∧ T' = tl [(3, .osl (n + 1) ver 0 bs.length)] ∧ LS H n [(n, .arr 0 17 [cmdAV c])] (n + 1) ver (7000200000000) bs H' n') ⟨_, bs ++ bytesB c.q.token, by rw [hbs, cmdB_eq h1 h7]; simp [hk7, kOps, kLeast, kQuery, qryB], rfl, (((hS.put (hS.lby (c.q.token) (by have := hc.row; have := hc.frm; have := hc.to; have := hc.pre; have := hc.whr; have := hc.token; have := hc.conds; have := hc.ops; have := hc.fams; omega))).up (by have := hc.row; have := hc.frm; have := hc.to; have := hc.pre; have := hc.whr; have := hc.token; have := hc.conds; have := hc.ops; have := hc.fams; omega))).drop⟩ ?_
      rintro T1 H1 n1 ⟨ver, bs, hfin, rfl, hS⟩
      refine awp_reg zs [2] fun K hK => ?_
      try simp only [go_sem, seval]
      repeat (first | (refine And.intro ?_ ?_; · first | exact ⟨rfl, by simp [AV.sz, AV.memOK]⟩ | exact ⟨by simp, .inr trivial, by have := hS.len; omega, by have := hS.len; omega⟩ | exact ⟨by simp, trivial, by have := hS.len; omega, by have := hS.len; omega⟩) | refine peel ?_)
      refine hK _ _ _ ?_; clear hK K
      refine awp_ret ?_
      try simp only [go_sem, seval]
      refine ⟨_, rfl, hS.low, .osl hS.buf (by omega) (by simp) ?_⟩
      rw [List.drop_zero, List.take_of_length_le (by simp), hfin]
      exact frzL_kl _ (kls0_bytes _ _)
end Go.Proofs.YtifnhpmeoogedaaGreatDoor
namespace Go.Proofs.YtifnhpmeoogedaaGreatDoor
open Go Go.Sx Go.Rt Go.Proofs
theorem listsE_cb (nf : Nat) (c : CmdE) : listsE nf c = if cb5 c then 20 else if cb6 nf c then 146 else if cb7 c then 144 else if cb8 nf c then 145 else 0 := by
  unfold listsE cb5 cb6 cb7 cb8 kOps
  by_cases h4 : c.kind = 4
  · simp only [h4]
    by_cases h1 : bout c.row.length 1 256 = true <;> by_cases h2 : 8 < c.conds.length <;> by_cases h3 : c.conds.all (condOK nf) = true <;> by_cases h5 : bout c.ops.length 1 16 = true <;> by_cases h6 : c.ops.all (opOK nf) = true <;> grind
  · by_cases h1 : 0 < c.row.length <;> by_cases h2 : 0 < c.conds.length <;> by_cases h3 : 0 < c.ops.length <;> grind
theorem schemaE_or (s : List Fml) : schemaE s = 0 ∨ schemaE s = 28 := by unfold schemaE; split <;> simp <;> split <;> simp
set_option maxRecDepth 100000 in
set_option maxHeartbeats 6400000 in
theorem c_ref14_Check (s : List Fml) (hs : s.length ≤ 2000000) (c : CmdE) (hc : c.fits) (qc : Int) (hq : kQuery c.kind = true → ∀ H n, Ret Tryz.prog 61 [schAV s, qryAV c.q] H n (.int .i64 qc) H n) (H : Heap) (n : Nat) :
    Ret Tryz.prog 16 [schAV s, cmdAV c] H n (.int .i64 (checkC qc s c)) H n := by
  have hszq := qryAV_sz c.q
  have haq : (qryAV c.q).isAgg = true := rfl
  have hmq : (qryAV c.q).memOK = true := rfl
  have hszs : (schAV s).sz = 1 := rfl
  have hags : (schAV s).isAgg = true := rfl
  have hmos : (schAV s).memOK = true := rfl
  refine Ret.fin ?_
  refine acalls_of_awp Tryz.func16 rfl Tryz.ntmps16 (congrArg Array.toList Tryz.results16) (by simp) ?_
  simp only [go_sem]
  refine awp_reg zs [2, 3] fun K hK => ?_
  try simp only [go_sem, seval, cmdAV, hszq]
  refine hK _ _ _ ?_; clear hK K
  refine awp_reg zs [2, 3, 5] fun K hK => ?_
  try simp only [go_sem, seval]
  refine callK_use Tryz.func56 rfl rfl rfl ((c_ref2_CheckSchema s _ _)) ?_
  try simp only [go_sem, seval]
  refine hK _ _ _ ?_; clear hK K
  refine awp_seq_k fun K1 hK1 => ?_
  refine awp_reg zs [2, 3, 5, 9] fun K hK => ?_
  try simp only [go_sem, seval]
  refine hK _ _ _ ?_; clear hK K
  refine awp_cnd (fun hb => ?_) (fun hb => ?_)
  ·skip
   have g0 : schemaE s = 28 := by rcases schemaE_or s with h | h <;> simp_all
   have hd : schemaE s = checkC qc s c := by unfold checkC; simp [g0]
   refine awp_reg zs [4] fun K hK => ?_
   try simp only [go_sem, seval]
   refine hK _ _ _ ?_; clear hK K
   refine awp_ret ?_
   try simp only [go_sem, seval]
   refine ⟨_, rfl, fun k hk => ?_, Frz.eq (congrArg (AV.int .i64) hd) trivial⟩
   (repeat rw [if_neg (by omega)])
  ·skip
   have g0 : schemaE s = 0 := by simpa using hb
   refine awp_skip ?_
   try simp only [go_sem, seval]
   refine hK1 _ _ _ ?_
   first | clear hK1 K1 | skip
   refine awp_seq_k fun K2 hK2 => ?_
   refine awp_reg zs [2, 3, 13] fun K hK => ?_
   try simp only [go_sem, seval]
   refine callK_use Tryz.func57 rfl rfl rfl ((c_ref14_out c.kind 1 7 _ _)) ?_
   refine hK _ _ _ ?_; clear hK K
   refine awp_cnd (fun hb => ?_) (fun hb => ?_)
   ·skip
    have g1 : bout c.kind 1 7 = true := hb
    have hd : 141 = checkC qc s c := by unfold checkC; simp [g0, g1]
    refine awp_reg zs [4] fun K hK => ?_
    try simp only [go_sem, seval]
    refine hK _ _ _ ?_; clear hK K
    refine awp_ret ?_
    try simp only [go_sem, seval]
    refine ⟨_, rfl, fun k hk => ?_, Frz.eq (congrArg (AV.int .i64) hd) trivial⟩
    (repeat rw [if_neg (by omega)])
   ·skip
    have g1 : bout c.kind 1 7 = false := hb
    have hk := bout_false g1
    refine awp_skip ?_
    try simp only [go_sem, seval]
    refine hK2 _ _ _ ?_
    first | clear hK2 K2 | skip
    refine awp_seq_k fun K3 hK3 => ?_
    refine awp_reg zs [2, 3, 16] fun K hK => ?_
    try simp only [go_sem, seval, hszq]
    refine callK_use Tryz.func58 rfl rfl rfl ((c_ref14_client c _ _)) ?_
    try simp only [go_sem, seval]
    refine hK _ _ _ ?_; clear hK K
    refine awp_cnd (fun hb => ?_) (fun hb => ?_)
    ·skip
     have g2 : cb3 c = true := by simpa using hb
     have hd : 142 = checkC qc s c := by unfold checkC; simp [g0, g1, g2]
     refine awp_reg zs [4] fun K hK => ?_
     try simp only [go_sem, seval]
     refine hK _ _ _ ?_; clear hK K
     refine awp_ret ?_
     try simp only [go_sem, seval]
     refine ⟨_, rfl, fun k hk => ?_, Frz.eq (congrArg (AV.int .i64) hd) trivial⟩
     (repeat rw [if_neg (by omega)])
    ·skip
     have g2 : cb3 c = false := by simpa using hb
     refine awp_skip ?_
     try simp only [go_sem, seval]
     refine hK3 _ _ _ ?_
     first | clear hK3 K3 | skip
     refine awp_seq_k fun K4 hK4 => ?_
     refine awp_reg zs [2, 3, 28] fun K hK => ?_
     try simp only [go_sem, seval]
     refine callK_use Tryz.func57 rfl rfl rfl ((c_ref14_out c.serial 0 1099511627776 _ _)) ?_
     try simp only [go_sem, seval]
     repeat refine peel ?_
     refine hK _ _ _ ?_; clear hK K
     refine awp_cnd (fun hb => ?_) (fun hb => ?_)
     ·skip
      have g3 : cb4 c = true := by unfold cb4; grind
      have hd : 143 = checkC qc s c := by unfold checkC; simp [g0, g1, g2, g3]
      refine awp_reg zs [4] fun K hK => ?_
      try simp only [go_sem, seval]
      refine hK _ _ _ ?_; clear hK K
      refine awp_ret ?_
      try simp only [go_sem, seval]
      refine ⟨_, rfl, fun k hk => ?_, Frz.eq (congrArg (AV.int .i64) hd) trivial⟩
      (repeat rw [if_neg (by omega)])
     ·skip
      have g3 : cb4 c = false := by unfold cb4; grind
      refine awp_skip ?_
      try simp only [go_sem, seval]
      refine hK4 _ _ _ ?_
      first | clear hK4 K4 | skip
      refine awp_reg zs [2, 3, 5] fun K hK => ?_
      try simp only [go_sem, seval, hszq]
      refine callK_use Tryz.func59 rfl rfl rfl ((c_ref14_lists s hs c _ _)) ?_
      try simp only [go_sem, seval]
      refine hK _ _ _ ?_; clear hK K
      refine awp_seq_k fun K5 hK5 => ?_
      refine awp_reg zs [2, 3, 5, 33] fun K hK => ?_
      try simp only [go_sem, seval]
      refine hK _ _ _ ?_; clear hK K
      refine awp_cnd (fun hb => ?_) (fun hb => ?_)
      ·skip
       have hd : listsE s.length c = checkC qc s c := by have h9 : listsE s.length c ≠ 0 := (by simpa using hb); rw [listsE_cb] at h9 ⊢; unfold checkC; grind
       refine awp_reg zs [4] fun K hK => ?_
       try simp only [go_sem, seval]
       refine hK _ _ _ ?_; clear hK K
       refine awp_ret ?_
       try simp only [go_sem, seval]
       refine ⟨_, rfl, fun k hk => ?_, Frz.eq (congrArg (AV.int .i64) hd) trivial⟩
       (repeat rw [if_neg (by omega)])
      ·skip
       have g4 : listsE s.length c = 0 := by simpa using hb
       rw [listsE_cb] at g4
       have g5 : cb5 c = false ∧ cb6 s.length c = false ∧ cb7 c = false ∧ cb8 s.length c = false := by grind
       refine awp_skip ?_
       try simp only [go_sem, seval]
       refine hK5 _ _ _ ?_
       first | clear hK5 K5 | skip
       refine awp_seq_k fun K6 hK6 => ?_
       refine awp_reg zs [2, 3, 37] fun K hK => ?_
       try simp only [go_sem, seval, hszq]
       refine callK_use Tryz.func60 rfl rfl rfl ((c_ref14_amount c hk.1 _ _)) ?_
       try simp only [go_sem, seval]
       refine hK _ _ _ ?_; clear hK K
       refine awp_cnd (fun hb => ?_) (fun hb => ?_)
       ·skip
        have g6 : cb9 c = true := by simpa using hb
        have hd : 148 = checkC qc s c := by unfold checkC; simp [g0, g1, g2, g3, g5, g6]
        refine awp_reg zs [4] fun K hK => ?_
        try simp only [go_sem, seval]
        refine hK _ _ _ ?_; clear hK K
        refine awp_ret ?_
        try simp only [go_sem, seval]
        refine ⟨_, rfl, fun k hk => ?_, Frz.eq (congrArg (AV.int .i64) hd) trivial⟩
        (repeat rw [if_neg (by omega)])
       ·skip
        have g6 : cb9 c = false := by simpa using hb
        refine awp_skip ?_
        try simp only [go_sem, seval]
        refine hK6 _ _ _ ?_
        first | clear hK6 K6 | skip
        refine awp_seq_k fun K7 hK7 => ?_
        refine awp_reg zs [2, 3, 40] fun K hK => ?_
        try simp only [go_sem, seval]
        refine hK _ _ _ ?_; clear hK K
        refine awp_cnd (fun hb => ?_) (fun hb => ?_)
        ·skip
         have g7 : kQuery c.kind = true := hb
         refine awp_reg zs [3, 5] fun K hK => ?_
         try simp only [go_sem, seval, hszq, haq]
         refine callK_use Tryz.func61 rfl rfl rfl ((hq g7 _ _)) ?_
         try simp only [go_sem, seval]
         refine hK _ _ _ ?_; clear hK K
         refine awp_reg zs [3, 5, 46] fun K hK => ?_
         try simp only [go_sem, seval]
         refine hK _ _ _ ?_; clear hK K
         refine awp_cnd (fun hb => ?_) (fun hb => ?_)
         ·skip
          have g8 : qc ≠ 0 := by simpa using hb
          have hd : qc = checkC qc s c := by unfold checkC; simp [g0, g1, g2, g3, g5, g6, g7, g8]
          refine awp_reg zs [4] fun K hK => ?_
          try simp only [go_sem, seval]
          refine hK _ _ _ ?_; clear hK K
          refine awp_ret ?_
          try simp only [go_sem, seval]
          refine ⟨_, rfl, fun k hk => ?_, Frz.eq (congrArg (AV.int .i64) hd) trivial⟩
          (repeat rw [if_neg (by omega)])
         ·skip
          have g8 : qc = 0 := by simpa using hb
          have ht : checkC qc s c = tailC c := by unfold checkC; simp [g0, g1, g2, g3, g5, g6, g7, g8]
          refine awp_skip ?_
          try simp only [go_sem, seval]
          refine hK7 _ _ _ ?_
          first | clear hK7 K7 | skip
          refine awp_seq_k fun K8 hK8 => ?_
          refine awp_reg zs [55] fun K hK => ?_
          try simp only [go_sem, seval, hszq]
          refine callK_use Tryz.func63 rfl rfl rfl ((c_ref14_lay c hc hk.1 hk.2 _ _)) ?_
          try simp only [go_sem, seval, List.length_map]
          refine hK _ _ _ ?_; clear hK K
          refine awp_cnd (fun hb => ?_) (fun hb => ?_)
          ·skip
           have hd : 2 = checkC qc s c := by rw [ht]; unfold tailC; rw [if_pos (by simpa using hb)]
           refine awp_reg zs [4] fun K hK => ?_
           try simp only [go_sem, seval]
           refine hK _ _ _ ?_; clear hK K
           refine awp_ret ?_
           try simp only [go_sem, seval]
           refine ⟨_, rfl, fun k hk => ?_, Frz.eq (congrArg (AV.int .i64) hd) trivial⟩
           (repeat rw [if_neg (by omega)])
          ·skip
           have hd : 0 = checkC qc s c := by rw [ht]; unfold tailC; rw [if_neg (by simpa using hb)]
           refine awp_skip ?_
           try simp only [go_sem, seval]
           refine hK8 _ _ _ ?_
           first | clear hK8 K8 | skip
           refine awp_reg zs [4] fun K hK => ?_
           try simp only [go_sem, seval]
           refine hK _ _ _ ?_; clear hK K
           refine awp_ret ?_
           try simp only [go_sem, seval]
           refine ⟨_, rfl, fun k hk => ?_, Frz.eq (congrArg (AV.int .i64) hd) trivial⟩
           (repeat rw [if_neg (by omega)])
        ·skip
         have g7 : kQuery c.kind = false := hb
         refine awp_reg zs [3, 51] fun K hK => ?_
         try simp only [go_sem, seval, hszq, haq]
         refine callK_use Tryz.func62 rfl rfl rfl ((c_ref14_zero c.q _ _)) ?_
         try simp only [go_sem, seval]
         refine hK _ _ _ ?_; clear hK K
         refine awp_cnd (fun hb => ?_) (fun hb => ?_)
         ·skip
          have g8 : c.q ≠ zq := by simpa using hb
          have hd : 130 = checkC qc s c := by unfold checkC; simp [g0, g1, g2, g3, g5, g6, g7, g8]
          refine awp_reg zs [4] fun K hK => ?_
          try simp only [go_sem, seval]
          refine hK _ _ _ ?_; clear hK K
          refine awp_ret ?_
          try simp only [go_sem, seval]
          refine ⟨_, rfl, fun k hk => ?_, Frz.eq (congrArg (AV.int .i64) hd) trivial⟩
          (repeat rw [if_neg (by omega)])
         ·skip
          have g8 : c.q = zq := by simpa using hb
          have ht : checkC qc s c = tailC c := by unfold checkC; simp [g0, g1, g2, g3, g5, g6, g7, g8]
          refine awp_skip ?_
          try simp only [go_sem, seval]
          refine hK7 _ _ _ ?_
          first | clear hK7 K7 | skip
          refine awp_seq_k fun K9 hK9 => ?_
          refine awp_reg zs [55] fun K hK => ?_
          try simp only [go_sem, seval, hszq]
          refine callK_use Tryz.func63 rfl rfl rfl ((c_ref14_lay c hc hk.1 hk.2 _ _)) ?_
          try simp only [go_sem, seval, List.length_map]
          refine hK _ _ _ ?_; clear hK K
          refine awp_cnd (fun hb => ?_) (fun hb => ?_)
          ·skip
           have hd : 2 = checkC qc s c := by rw [ht]; unfold tailC; rw [if_pos (by simpa using hb)]
           refine awp_reg zs [4] fun K hK => ?_
           try simp only [go_sem, seval]
           refine hK _ _ _ ?_; clear hK K
           refine awp_ret ?_
           try simp only [go_sem, seval]
           refine ⟨_, rfl, fun k hk => ?_, Frz.eq (congrArg (AV.int .i64) hd) trivial⟩
           (repeat rw [if_neg (by omega)])
          ·skip
           have hd : 0 = checkC qc s c := by rw [ht]; unfold tailC; rw [if_neg (by simpa using hb)]
           refine awp_skip ?_
           try simp only [go_sem, seval]
           refine hK9 _ _ _ ?_
           first | clear hK9 K9 | skip
           refine awp_reg zs [4] fun K hK => ?_
           try simp only [go_sem, seval]
           refine hK _ _ _ ?_; clear hK K
           refine awp_ret ?_
           try simp only [go_sem, seval]
           refine ⟨_, rfl, fun k hk => ?_, Frz.eq (congrArg (AV.int .i64) hd) trivial⟩
           (repeat rw [if_neg (by omega)])
set_option maxRecDepth 100000 in
theorem c_ref14_Encode (s : List Fml) (hs : s.length ≤ 2000000) (c : CmdE) (hc : c.fits) (qc : Int) (hq : kQuery c.kind = true → ∀ H n, Ret Tryz.prog 61 [schAV s, qryAV c.q] H n (.int .i64 qc) H n) (H : Heap) (n : Nat) :
    Ret Tryz.prog 18 [schAV s, cmdAV c] H n (.tup [bys (if checkC qc s c = 0 then cmdB c else []), .int .i64 (checkC qc s c)]) H n := by
  have hszs : (schAV s).sz = 1 := rfl
  have hags : (schAV s).isAgg = true := rfl
  have hmos : (schAV s).memOK = true := rfl
  have hcag : (cmdAV c).isAgg = true := rfl
  have hcmo : (cmdAV c).memOK = true := rfl
  have hsz : (cmdAV c).sz = 17 := cmdAV_sz c
  refine Ret.fin ?_
  refine acalls_of_awp Tryz.func18 rfl Tryz.ntmps18 (congrArg Array.toList Tryz.results18) (by simp) ?_
  simp only [go_sem]
  refine awp_reg zs [2, 3] fun K hK => ?_
  try simp only [go_sem, seval, hcmo, hsz]
  refine hK _ _ _ ?_; clear hK K
  refine awp_reg zs [3, 6] fun K hK => ?_
  try simp only [go_sem, seval, hcag, hsz]
  refine callK_use Tryz.func16 rfl rfl rfl ((c_ref14_Check s hs c hc qc hq _ _)) ?_
  try simp only [go_sem, seval]
  refine hK _ _ _ ?_; clear hK K
  refine awp_seq_k fun K1 hK1 => ?_
  refine awp_reg zs [3, 6, 11] fun K hK => ?_
  try simp only [go_sem, seval]
  refine hK _ _ _ ?_; clear hK K
  refine awp_cnd (fun hb => ?_) (fun hb => ?_)
  ·skip
   have hn : ¬ checkC qc s c = 0 := by simpa using hb
   refine awp_reg zs [4, 5] fun K hK => ?_
   try simp only [go_sem, seval]
   refine hK _ _ _ ?_; clear hK K
   refine awp_ret ?_
   try simp only [go_sem, seval]
   refine ⟨_, rfl, fun k hk => by (repeat rw [if_neg (by omega)]), ?_⟩
   first | (rw [if_neg hn]; exact .tup (.cons .nilsl (.cons (.kl trivial) .nil))) | (rw [hy, if_pos rfl]; exact .tup (.cons (.kl (kls_bytes _ _)) (.cons (.kl trivial) .nil)))
  ·skip
   have hy : checkC qc s c = 0 := by simpa using hb
   refine awp_skip ?_
   try simp only [go_sem, seval]
   refine hK1 _ _ _ ?_
   first | clear hK1 K1 | skip
   refine awp_reg zs [4, 5] fun K hK => ?_
   try simp only [go_sem, seval, hcag, hsz]
   refine callK_use Tryz.func63 rfl rfl rfl ((c_ref14_lay c hc (checkC_kind hy).1 (checkC_kind hy).2 _ _)) ?_
   try simp only [go_sem, seval]
   refine hK _ _ _ ?_; clear hK K
   refine awp_ret ?_
   try simp only [go_sem, seval]
   refine ⟨_, rfl, fun k hk => by (repeat rw [if_neg (by omega)]), ?_⟩
   first | (rw [if_neg hn]; exact .tup (.cons .nilsl (.cons (.kl trivial) .nil))) | (rw [hy, if_pos rfl]; exact .tup (.cons (.kl (kls_bytes _ _)) (.cons (.kl trivial) .nil)))
end Go.Proofs.YtifnhpmeoogedaaGreatDoor
namespace Go.Sx
open Go
open Classical in
noncomputable def Ctx.frzK (c : Ctx) (H : Heap) (k : Nat) (w : World) : Ctx where
  ρ := c.ρ
  ro := fun b => match c.ro b with
    | some a => some a
    | none => if ∃ ver e els, H k = some (.arr ver e els) ∧ blockOf c k (.arr ver e els) = some b then
        (match w.heap[b]? with | some (.cells a _ _) => some a | _ => none) else none
theorem Ctx.frzK_le (c : Ctx) (H : Heap) (k : Nat) (w : World) : c.le (c.frzK H k w) where
  ρ := fun h => h
  ro := fun {b a} h => by simp only [Ctx.frzK, h]
theorem Ctx.frzK_ro {c : Ctx} {H : Heap} {n : Nat} {w : World} (hs : Sim c H n w) {k ver e : Nat} {els : List AV} (hk : H k = some (.arr ver e els)) {b : Nat} (hbo : blockOf c k (.arr ver e els) = some b) {arr : Array Value} {ty : TypeId} {fr : Nat × Nat} (hb : w.heap[b]? = some (.cells arr ty fr)) : (c.frzK H k w).ro b = some arr := by
  have h := hs.sep k _ b hk hbo
  simp only [Ctx.frzK, h]
  rw [if_pos ⟨ver, e, els, hk, hbo⟩, hb]
theorem Step.frzK {c : Ctx} {H : Heap} {n : Nat} {w : World} (hs : Sim c H n w) (k : Nat) : Step c H w (c.frzK H k w) (H.put k none) n w := by
  have hne : ∀ {k' o}, (H.put k none) k' = some o → k' ≠ k ∧ H k' = some o := fun {k' o} h => by
    by_cases e : k' = k
    · subst e; rw [Heap.put_same] at h; cases h
    · rw [Heap.put_ne _ _ e] at h; exact ⟨e, h⟩
  have hbo : ∀ k' o, blockOf (c.frzK H k w) k' o = blockOf c k' o := fun _ _ => rfl
  exact {
    le := c.frzK_le H k w
    sim := {
      ro := fun b a hb => by
        simp only [Ctx.frzK] at hb
        split at hb
        · rename_i a' hr; cases hb; exact hs.ro b _ hr
        · split at hb
          · split at hb
            · rename_i _ _ hw; cases hb; exact ⟨_, _, hw⟩
            · simp at hb
          · simp at hb
      own := fun k' o h => (hs.own k' o (hne h).2).mono (c.frzK_le H k w) (fun _ _ => rfl)
      sep := fun k' o b h hb => by
        rw [hbo] at hb
        have h4 := hs.sep k' o b (hne h).2 hb
        simp only [Ctx.frzK, h4]
        rw [if_neg]
        rintro ⟨ver, e, els, hk', hb'⟩
        exact (hne h).1 (hs.inj k' k o _ b (hne h).2 hk' hb hb')
      inj := fun k1 k2 o1 o2 b h1 h2 b1 b2 => hs.inj k1 k2 o1 o2 b (hne h1).2 (hne h2).2 b1 b2
      fresh := fun k' hk => ⟨by
        by_cases e : k' = k
        · subst e; exact Heap.put_same _ _ _
        · rw [Heap.put_ne _ _ e]; exact (hs.fresh k' hk).1, (hs.fresh k' hk).2⟩
      vers := fun k' o v h hv => hs.vers k' o v (hne h).2 hv }
    fr := .refl _ _
    new := fun b ⟨k', o, h, hb⟩ => .inl ⟨k', o, (hne h).2, hb⟩ }
def Frzn (k ver e : Nat) (els : List AV) (c : Ctx) : Prop := ∃ c0 H n w, Sim c0 H n w ∧ H k = some (.arr ver e els) ∧ c = c0.frzK H k w
theorem Frzn.osl {k ver e off len : Nat} {els : List AV} {c : Ctx} (hf : Frzn k ver e els c) (hlen : off + len ≤ els.length) {m : Bool} {cs : List Value} (hr : Rel c (.osl k ver off len) m cs) : Rel c (.sl e ((els.drop off).take len)) m cs := by
  obtain ⟨c0, H, n, w, hs, hk, rfl⟩ := hf
  have hys : ((els.drop off).take len).length = len := by simp; omega
  have ho := hs.own k _ hk
  simp only [OwnOK] at ho
  obtain ⟨l, hl, hm⟩ := ho
  simp only [Rel] at hr ⊢
  obtain ⟨l', hl', hmm⟩ := hr
  rw [show (c0.frzK H k w).ρ k ver = c0.ρ k ver from rfl, hl] at hl'; cases hl'
  cases l with
  | nil =>
    obtain ⟨_, h2, ev⟩ := hmm
    subst h2
    exact ⟨none, 0, by simpa using ev, by simp, by simp, .inl (by simp)⟩
  | blk b cap e' =>
    obtain ⟨he, hz, hc, arr, ty, ds, hb, hsz, hrf, ha⟩ := hm
    subst he
    obtain ⟨cp, o', h1, h2, h3, ev⟩ := hmm
    have hbo : blockOf c0 k (.arr ver e' els) = some b := by simp [blockOf, AObj.ver, hl]
    refine ⟨_, cp, by rw [hys]; exact ev, by rw [hys]; exact h1, fun x hx => hz x (List.mem_of_mem_drop (List.mem_of_mem_take hx)), ?_⟩
    by_cases h0 : len = 0
    · left; exact List.length_eq_zero_iff.1 (by omega)
    · right
      have eo : o' = off * e' := by rcases h3 with h3 | h3 <;> omega
      subst eo
      have e1 : els = els.take off ++ ((els.drop off).take len ++ (els.drop off).drop len) := by rw [List.take_append_drop, List.take_append_drop]
      rw [e1] at hrf
      obtain ⟨d1, r1, ed, hr1, hr2⟩ := RelF.append.1 hrf
      obtain ⟨d2, d3, ed2, hr3, hr4⟩ := RelF.append.1 hr2
      subst ed; subst ed2
      have hl1 : d1.length = off * e' := by
        rw [(RelF.len _ _ hr1).1, AV.szs_uniform (fun x hx => hz x (List.mem_of_mem_take hx)), List.length_take, Nat.min_eq_left (by omega)]
      obtain ⟨_, ha2⟩ := At.append.1 ha
      obtain ⟨ha3, _⟩ := At.append.1 ha2
      exact ⟨b, off * e', arr, d2, rfl, Ctx.frzK_ro hs hk hbo hb, RelF.mono (c0.frzK_le H k w) _ _ hr3, by rw [← hl1]; simpa using ha3⟩
def FzV (k ver e : Nat) (els : List AV) (a b : AV) : Prop := a.sz = b.sz ∧ ∀ c m cs, Frzn k ver e els c → Rel c a m cs → Rel c b m cs
def FzL (k ver e : Nat) (els : List AV) : List AV → List AV → Prop
  | [], [] => True
  | a :: l, b :: m => FzV k ver e els a b ∧ FzL k ver e els l m
  | _, _ => False
section
variable {k ver e : Nat} {els : List AV}
theorem FzV.refl (a : AV) : FzV k ver e els a a := ⟨rfl, fun _ _ _ _ h => h⟩
theorem FzV.osl {off len : Nat} (hlen : off + len ≤ els.length) : FzV k ver e els (.osl k ver off len) (.sl e ((els.drop off).take len)) := ⟨rfl, fun _ _ _ hf hr => hf.osl hlen hr⟩
theorem FzV.wk {a b : AV} (h : Wk a b) : FzV k ver e els a b := ⟨h.1, fun _ _ _ _ hr => h.2 _ _ _ hr⟩
theorem FzL.relF {c : Ctx} (hf : Frzn k ver e els c) : ∀ {l m : List AV} {cs : List Value}, FzL k ver e els l m → RelF c l cs → RelF c m cs
  | [], [], _, _, h => h
  | a :: l, b :: m, cs, hw, h => by
    simp only [RelF] at h ⊢
    obtain ⟨c1, c2, e, h1, h2⟩ := h
    exact ⟨c1, c2, e, hw.1.2 _ _ _ hf h1, FzL.relF hf hw.2 h2⟩
  | [], _ :: _, _, hw, _ => hw.elim
  | _ :: _, [], _, hw, _ => hw.elim
theorem FzL.szs : ∀ {l m : List AV}, FzL k ver e els l m → AV.szs l = AV.szs m
  | [], [], _ => rfl
  | a :: l, b :: m, hw => by simp only [AV.szs]; rw [hw.1.1, FzL.szs hw.2]
  | [], _ :: _, hw => hw.elim
  | _ :: _, [], hw => hw.elim
theorem FzL.len : ∀ {l m : List AV}, FzL k ver e els l m → l.length = m.length
  | [], [], _ => rfl
  | a :: l, b :: m, hw => by simp [FzL.len hw.2]
  | [], _ :: _, hw => hw.elim
  | _ :: _, [], hw => hw.elim
theorem FzL.szAll {e' : Nat} : ∀ {l m : List AV}, FzL k ver e els l m → (∀ x ∈ l, x.sz = e') → ∀ x ∈ m, x.sz = e'
  | [], [], _, _, x, hx => by simp at hx
  | a :: l, b :: m, hw, h, x, hx => by
    rcases List.mem_cons.1 hx with rfl | hx
    · rw [← hw.1.1]; exact h a (by simp)
    · exact FzL.szAll hw.2 (fun y hy => h y (by simp [hy])) x hx
  | [], _ :: _, hw, _, _, _ => hw.elim
  | _ :: _, [], hw, _, _, _ => hw.elim
theorem FzV.agg {l m : List AV} (h : FzL k ver e els l m) : FzV k ver e els (.agg l) (.agg m) := ⟨by simp only [AV.sz]; exact h.szs, fun c mm cs hf hr => by
  cases mm with
  | true => simp only [Rel] at hr ⊢; exact h.relF hf hr
  | false => simp only [Rel] at hr ⊢; obtain ⟨arr, e, hr⟩ := hr; exact ⟨arr, e, h.relF hf hr⟩⟩
end
theorem awp_freeze_obj {P : Program} {N : Nat} {code : Code} {T : Nat → AV} {H : Heap} {n : Nat} {Q : AEx → (Nat → AV) → Heap → Nat → Prop} (k j : Nat) {ver e vj ej : Nat} {els lj lj' : List AV} (hk : H k = some (.arr ver e els)) (hj : H j = some (.arr vj ej lj)) (hne : j ≠ k) (ha : FzL k ver e els lj lj')
    (h : awp P N code T ((H.put k none).put j (some (.arr vj ej lj'))) n Q) : awp P N code T H n Q :=
  awp_ghost (fun c w tmps hs hr => by
    have hst := Step.frzK hs k
    have hst2 := Step.retell (els' := lj') hst.sim (k := j) (by rw [Heap.put_ne _ _ hne]; exact hj) (fun ds hd => ha.relF ⟨c, H, n, w, hs, hk, rfl⟩ hd) ha.len.symm ha.szAll
    exact ⟨_, hst.trans hst2, RelTmps.mono (hst.trans hst2).le hr⟩) h
theorem FzL.relT {k ver e : Nat} {els : List AV} {c : Ctx} (hf : Frzn k ver e els c) : ∀ {l m : List AV} {cs : List Value}, FzL k ver e els l m → RelT c l cs → RelT c m cs
  | [], [], _, _, h => h
  | a :: l, b :: m, cs, hw, h => by
    simp only [RelT] at h ⊢
    obtain ⟨c1, c2, e, h1, h2⟩ := h
    exact ⟨c1, c2, e, hw.1.2 _ _ _ hf h1, FzL.relT hf hw.2 h2⟩
  | [], _ :: _, _, hw, _ => hw.elim
  | _ :: _, [], _, hw, _ => hw.elim
theorem ACalls.frzK {P : Program} {f : FuncId} {args args' : List AV} {H : Heap} {n : Nat} {K : ARes → Heap → Nat → Prop} (k : Nat) {ver e : Nat} {els : List AV} (hk : H k = some (.arr ver e els)) (ha : FzL k ver e els args args')
    (h : ACalls P f args' (H.put k none) n K) : ACalls P f args H n K := fun c w vs hs hr =>
  (h (c.frzK H k w) w vs (Step.frzK hs k).sim (ha.relT ⟨c, H, n, w, hs, hk, rfl⟩ (RelT.mono (c.frzK_le H k w) _ _ hr))).mono fun _ _ ⟨res, c', H', n', hK, hst, hm⟩ => ⟨res, c', H', n', hK, (Step.frzK hs k).trans hst, hm⟩
theorem Ret.frzK {P : Program} {f : FuncId} {args args' : List AV} {H : Heap} {n : Nat} {r : AV} {H' : Heap} {n' : Nat} (k : Nat) {ver e : Nat} {els : List AV} (hk : H k = some (.arr ver e els)) (ha : FzL k ver e els args args') (h : Ret P f args' (H.put k none) n r H' n') : Ret P f args H n r H' n' := ACalls.frzK k hk ha h
theorem ACalls.below {P : Program} {f : FuncId} {args : List AV} {H : Heap} {n : Nat} {K : ARes → Heap → Nat → Prop} {k : Nat} {o : AObj} (hk : H k = some o) (h : k < n → ACalls P f args H n K) : ACalls P f args H n K := fun c w vs hs hr =>
  h (by
    rcases Nat.lt_or_ge k n with h1 | h1
    · exact h1
    · rw [(hs.fresh k h1).1] at hk; cases hk) c w vs hs hr
theorem Ret.below {P : Program} {f : FuncId} {args : List AV} {H : Heap} {n : Nat} {r : AV} {H' : Heap} {n' : Nat} {k : Nat} {o : AObj} (hk : H k = some o) (h : k < n → Ret P f args H n r H' n') : Ret P f args H n r H' n' := ACalls.below hk h
end Go.Sx
namespace Go.Proofs.YtifnhpmeoogedaaGreatDoor
open Go Go.Sx Go.Rt Go.Proofs
def c9 : CmdE := { zc with kind := 4, row := [114], conds := List.replicate 9 ⟨0, 0, [], []⟩ }
def zcd : AV := .agg [.int .i64 0, .int .i64 0, .nilsl, .nilsl]
def qz : AV := .agg [.nilsl, .nilsl, .nilsl, .nilsl, .int .i64 0, .int .i64 0, .int .i64 0, .bool false, .str [], .nilsl]
theorem fz_bytes (k m : Nat) : FzV k 0 1 (List.replicate m (AV.int .u8 0)) (.osl k 0 0 m) (bys (List.replicate m 0)) := by
  have h := FzV.osl (k := k) (ver := 0) (e := 1) (els := List.replicate m (AV.int .u8 0)) (off := 0) (len := m) (by simp)
  rw [List.drop_zero, List.take_of_length_le (by simp)] at h
  have e : (List.replicate m (0 : UInt8)).map byteAV = List.replicate m (AV.int .u8 0) := by rw [List.map_replicate]; rfl
  unfold bys; rw [e]; exact h
theorem rdCmd_zero (m : Nat) : rdCmd (List.replicate m 0) = none := by
  unfold rdCmd rs1 rdByte
  cases m with
  | zero => rfl
  | succ m => simp [List.replicate_succ, bout]
theorem decC_none (qc : QryE → Int) (b : List UInt8) : decC qc [] b = (zc, 28) := by unfold decC; rw [if_pos (by decide)]
theorem wk_zcd : Wk zcd (condAV ⟨0, 0, [], []⟩) := Wk.agg ⟨.refl _, .refl _, .nilsl _, .nilsl _, trivial⟩
theorem wk_c9 : Wk (.agg [.int .i64 4, .int .i64 0, .int .i64 0, .sl 1 [.int .u8 114], .sl 4 (List.replicate 9 zcd), .nilsl, .int .i64 0, qz]) (cmdAV c9) :=
  Wk.agg ⟨.refl _, .refl _, .refl _, .refl _, .sl ⟨wk_zcd, wk_zcd, wk_zcd, wk_zcd, wk_zcd, wk_zcd, wk_zcd, wk_zcd, wk_zcd, trivial⟩, .nilsl _, .refl _, Wk.agg ⟨.nilsl _, .nilsl _, .nilsl _, .nilsl _, .refl _, .refl _, .refl _, .refl _, .refl _, .nilsl _, trivial⟩, trivial⟩
set_option maxRecDepth 100000 in
theorem c_law14_firsts {H : Heap} {n : Nat} (hG : GOK 0 2 H n) : Ret Tryz.prog 46 [] H n (.bool true) H n := by
  refine Ret.fin ?_
  refine acalls_of_awp Tryz.func46 rfl Tryz.ntmps46 (congrArg Array.toList Tryz.results46) (by simp) ?_
  simp only [go_sem]
  refine awp_rq zs [] ?_
  refine awp_rq zo [1] ?_
  refine awp_freeze_obj (n + 1) (n + 2) (ver := 0) (e := 4) (els := List.replicate 9 zcd) (vj := 0) (ej := 17) (lj := [.agg [.int .i64 4, .int .i64 0, .int .i64 0, .sl 1 [.int .u8 114], .osl (n + 1) 0 0 9, .nilsl, .int .i64 0, qz]]) (lj' := [.agg [.int .i64 4, .int .i64 0, .int .i64 0, .sl 1 [.int .u8 114], .sl 4 (List.replicate 9 zcd), .nilsl, .int .i64 0, qz]]) (by simp [Heap.put]; rfl) (by simp [Heap.put]; rfl) (by omega) ⟨FzV.agg ⟨.refl _, .refl _, .refl _, .refl _, FzV.osl (off := 0) (len := 9) (by simp), .refl _, .refl _, .refl _, trivial⟩, trivial⟩ ?_
  refine awp_wk_obj (n + 2) (ver := 0) (e := 17) (els := [.agg [.int .i64 4, .int .i64 0, .int .i64 0, .sl 1 [.int .u8 114], .sl 4 (List.replicate 9 zcd), .nilsl, .int .i64 0, qz]]) (els' := [cmdAV c9]) (Heap.put_same _ _ _) ⟨wk_c9, trivial⟩ ?_
  refine awp_gen (fun H' n' => H' (n + 2) = some (.arr 0 17 [cmdAV c9]) ∧ (∀ k, k < n → H' k = H k) ∧ n + 3 ≤ n') ⟨Heap.put_same _ _ _, fun k hk => by simp only [Heap.put_get]; (repeat rw [if_neg (by omega)]), by omega⟩ fun H1 n1 ⟨k1, hl, hn⟩ => ?_
  refine awp_reg zs [1, 3] fun K hK => ?_
  try simp only [go_sem, seval, -List.reduceReplicate]
  generalize hm : (98305 : Nat) = m
  have hct := fun (Hc : Heap) (hc : GOK 0 2 Hc (n1 + 1)) => c_order_Decode [] (by simp) (List.replicate m 0) (by rw [List.length_replicate]; omega) (fun _ => 0) hc (fun c h => by rw [rdCmd_zero] at h; cases h)
  rw [decC_none] at hct
  refine callK_use (args' := [.agg [.nilsl], .osl n1 0 0 m]) Tryz.func26 rfl rfl rfl (Ret.frzK n1 (Heap.put_same _ _ _) (args' := [schAV [], bys (List.replicate m 0)]) ⟨FzV.agg ⟨FzV.wk (Wk.nilsl 3), trivial⟩, fz_bytes n1 m, trivial⟩ (hct _ (hG.on (fun k hk => by rw [Heap.put_ne _ _ (by omega), Heap.put_ne _ _ (by omega), hl k hk]) (by omega)))) ?_
  try simp only [go_sem, seval, -List.reduceReplicate, cmdAV_sz]
  repeat refine peel ?_
  refine hK _ _ _ ?_; clear hK K
  have hGK : ∀ k, k < n → ((H1.put n1 none).put (n1 + 1) (some (.arr 0 17 [cmdAV zc]))) k = H k := fun k hk => by rw [Heap.put_ne _ _ (by omega), Heap.put_ne _ _ (by omega), hl k hk]
  have hGa := (hGK 0 hG.gek).trans hG.kinds
  have hGb := (hGK 2 hG.get).trans hG.table
  have e1 : (n + 2 = n1 + 1) = False := by simp; omega
  have e2 : (n + 2 = n1) = False := by simp; omega
  have hq1 : checkC 0 [] { zc with kind := 99 } = 28 := by decide
  have hq2 : checkC 0 [⟨[102], 1, 0⟩] c9 = 146 := by decide
  have hcag : (cmdAV c9).isAgg = true := rfl
  have hcmo : (cmdAV c9).memOK = true := rfl
  have hbb : (true == true) = true := rfl
  have hb28 : ((28 : Int) == 28) = true := rfl
  have hb146 : ((146 : Int) == 146) = true := rfl
  refine awp_drp rfl zs [0] [.q, .q, .c, .q, .m, .m, .q, .q, .m, .c, .q, .c, .q, .q, .q] [0, 1, 2, 3, 4, 5, 6, 7, 8, 9, 10, 11, 12, 13, 14] [0, 1, 2, 3, 4, 5, 6, 7, 8, 9, 10, 11, 12, 13, 14] (by kernel_rfl) (fun _ _ _ _ _ h => h) fun K hK => ?_
  try simp only [go_sem, seval, k1, e1, e2, cmdAV_sz, hcag]
  repeat refine peel ?_
  refine callQG_use Tryz.func15 rfl rfl rfl (fun _ n9 => Ret.wk (Ret.below hGa fun g1 => Ret.below hGb fun g2 => c_order_Check [] (by simp) { zc with kind := 99 } (let z := zc_fits; ⟨z.1, z.2, z.3, z.4, z.5, z.6, z.7, z.8, z.9, z.10, z.11⟩) 0 (fun h => by cases h) _ n9 ⟨hGa, hGb, g1, g2⟩) ⟨Wk.agg ⟨.nilsl _, trivial⟩, Wk.agg ⟨.refl _, .refl _, .refl _, .nilsl _, .nilsl _, .nilsl _, .refl _, Wk.agg ⟨.nilsl _, .nilsl _, .nilsl _, .nilsl _, .refl _, .refl _, .refl _, .refl _, .refl _, .nilsl _, trivial⟩, trivial⟩, trivial⟩) ?_
  try simp only [go_sem, seval, hq1, hbb, hb28]
  refine callQG_use Tryz.func41 rfl rfl rfl (fun _ n => (c_law14_one _ _)) ?_
  try simp only [go_sem, seval]
  refine callQG_use Tryz.func15 rfl rfl rfl (fun _ n9 => Ret.below hGa fun g1 => Ret.below hGb fun g2 => c_order_Check [⟨[102], 1, 0⟩] (by simp) c9 (let z := zc_fits; ⟨by decide, by decide, by decide, z.4, z.5, z.6, z.7, z.8, z.9, z.10, z.11⟩) 0 (fun h => by cases h) _ n9 ⟨hGa, hGb, g1, g2⟩) ?_
  try simp only [go_sem, seval, hq2, hb146]
  refine hK _ _ _ ?_; clear hK K
  refine awp_ret ?_
  try simp only [go_sem, seval]
  exact ⟨_, rfl, fun k hk => by rw [if_neg (by omega), if_neg (by omega), hl k hk], .kl trivial⟩
end Go.Proofs.YtifnhpmeoogedaaGreatDoor
namespace Go.Proofs.YtifnhpmeoogedaaGreatDoor
open Go Go.Sx Go.Rt Go.Proofs
def c8 : CmdE := { zc with kind := 4, row := [114], ops := [⟨5, 0, [113], 0, [], -1⟩] }
def r8 : RepE := { zr with value := 7 }
def s1 : List Fml := [⟨[102], 1, 0⟩]
theorem c8_fits : c8.fits := let z := zc_fits; ⟨by decide, z.2, z.3, by decide, by decide, z.6, z.7, z.8, z.9, z.10, z.11⟩
theorem c8_B : cmdB c8 = [4, 0, 0, 1, 114, 0, 1, 5, 0, 1, 113, 0, 0, 255, 255, 255, 255, 255, 255, 255, 255] := by
  simp [cmdB, c8, zc, bytesB, uintB_lt, u64, opB, eightB, byteI, condB, kClient, kFree]
theorem chk8 (qc : Int) : checkC qc s1 c8 = 0 := by
  have h : tailC c8 = 0 := by unfold tailC; rw [c8_B]; rfl
  unfold checkC
  rw [h]
  have : kQuery c8.kind = false := rfl
  rw [this]
  simp only [Bool.false_eq_true, ↓reduceIte]
  decide
theorem dec8 (qc : QryE → Int) : decC qc s1 (cmdB c8) = (c8, 0) := by
  have h1 : rdCmd (cmdB c8) = some c8 := by rw [c8_B]; decide +kernel
  unfold decC
  rw [if_neg (by decide), if_neg (by rw [c8_B]; decide), h1]
  simp only []
  rw [if_pos ⟨chk8 _, trivial⟩]
theorem dec0 (qc : QryE → Int) : decC qc s1 [] = (zc, 140) := by
  unfold decC
  rw [if_neg (by decide), if_neg (by decide)]
  have h1 : rdCmd [] = none := by decide +kernel
  rw [h1]
theorem r8_B : repB r8 = [0, 0, 7, 0, 0, 0] := by
  simp [repB, r8, zr, bytesB, uintB_lt, u64, flagB]
theorem enc8 : encR r8 = (repB r8, 0) := by
  unfold encR
  rw [if_neg (by decide), if_neg (by rw [r8_B]; decide)]
theorem decr8 : decR (repB r8) = (r8, 0) := by
  have h1 : rdRep (repB r8) = some r8 := by rw [r8_B]; decide +kernel
  unfold decR
  rw [if_neg (by rw [r8_B]; decide), h1]
  simp only []
  rw [if_pos ⟨by decide, trivial⟩]
end Go.Proofs.YtifnhpmeoogedaaGreatDoor
namespace Go.Proofs.YtifnhpmeoogedaaGreatDoor
open Go Go.Sx Go.Rt Go.Proofs
theorem rd8 : rdCmd (cmdB c8) = some c8 := by rw [c8_B]; decide +kernel
theorem rd0 : rdCmd [] = none := by decide +kernel
theorem wk_r8 : Wk (.agg [.int .i64 0, .bool false, .int .i64 7, .agg [.nilsl, .nilsl, .bool false]]) (repAV r8) := Wk.agg ⟨.refl _, .refl _, .refl _, Wk.agg ⟨.nilsl _, .nilsl _, .refl _, trivial⟩, trivial⟩
theorem wk_c8 : Wk (.agg [.int .i64 4, .int .i64 0, .int .i64 0, .sl 1 [.int .u8 114], .nilsl, .sl 6 [.agg [.int .i64 5, .int .i64 0, .sl 1 [.int .u8 113], .int .i64 0, .nilsl, .int .i64 (-1)]], .int .i64 0, qz]) (cmdAV c8) :=
  Wk.agg ⟨.refl _, .refl _, .refl _, .refl _, .nilsl _, .sl ⟨Wk.agg ⟨.refl _, .refl _, .refl _, .refl _, .nilsl _, .refl _, trivial⟩, trivial⟩, .refl _, Wk.agg ⟨.nilsl _, .nilsl _, .nilsl _, .nilsl _, .refl _, .refl _, .refl _, .refl _, .refl _, .nilsl _, trivial⟩, trivial⟩
set_option maxRecDepth 100000 in
set_option maxHeartbeats 3200000 in
theorem c_law14_told {H : Heap} {n : Nat} (hG : GOK 0 2 H n) : Ret Tryz.prog 12 [] H n (.bool true) H n := by
  have k1 : (0 : Nat) = 0 := rfl
  have hcag : (cmdAV c8).isAgg = true := rfl
  have hcmo : (cmdAV c8).memOK = true := rfl
  refine Ret.fin ?_
  refine acalls_of_awp Tryz.func12 rfl Tryz.ntmps12 (congrArg Array.toList Tryz.results12) (by simp) ?_
  simp only [go_sem]
  refine awp_reg zs [] fun K hK => ?_
  try simp only [go_sem, seval]
  refine hK _ _ _ ?_; clear hK K
  refine awp_reg zo [1] fun K hK => ?_
  try simp only [go_sem, seval]
  repeat refine peel ?_
  refine hK _ _ _ ?_; clear hK K
  refine awp_freeze_obj (n + 2) (n + 3) (ver := 0) (e := 6) (els := [.agg [.int .i64 5, .int .i64 0, .sl 1 [.int .u8 113], .int .i64 0, .nilsl, .int .i64 (-1)]]) (vj := 0) (ej := 17) (lj := [.agg [.int .i64 4, .int .i64 0, .int .i64 0, .sl 1 [.int .u8 114], .nilsl, .osl (n + 2) 0 0 1, .int .i64 0, qz]]) (lj' := [.agg [.int .i64 4, .int .i64 0, .int .i64 0, .sl 1 [.int .u8 114], .nilsl, .sl 6 [.agg [.int .i64 5, .int .i64 0, .sl 1 [.int .u8 113], .int .i64 0, .nilsl, .int .i64 (-1)]], .int .i64 0, qz]]) (by simp [Heap.put]) (by simp [Heap.put]; rfl) (by omega) ⟨FzV.agg ⟨.refl _, .refl _, .refl _, .refl _, .refl _, FzV.osl (off := 0) (len := 1) (by simp), .refl _, .refl _, trivial⟩, trivial⟩ ?_
  refine awp_wk_obj (n + 3) (ver := 0) (e := 17) (els := [.agg [.int .i64 4, .int .i64 0, .int .i64 0, .sl 1 [.int .u8 114], .nilsl, .sl 6 [.agg [.int .i64 5, .int .i64 0, .sl 1 [.int .u8 113], .int .i64 0, .nilsl, .int .i64 (-1)]], .int .i64 0, qz]]) (els' := [cmdAV c8]) (Heap.put_same _ _ _) ⟨wk_c8, trivial⟩ ?_
  refine awp_gen (fun H' n' => H' (n + 3) = some (.arr 0 17 [cmdAV c8]) ∧ (∀ k, k < n → H' k = H k) ∧ n + 4 ≤ n') ⟨Heap.put_same _ _ _, fun k hk => by simp only [Heap.put_get]; (repeat rw [if_neg (by omega)]), by omega⟩ fun H1 n1 ⟨k1, hl, hn⟩ => ?_
  have hGa := (hl 0 hG.gek).trans hG.kinds
  have hGb := (hl 2 hG.get).trans hG.table
  have hE := fun n9 => Ret.below hGa fun g1 => Ret.below hGb fun g2 => c_order_Encode s1 (by decide) c8 c8_fits 0 (H := H1) (n := n9) ⟨hGa, hGb, g1, g2⟩ (fun h => by cases h)
  have hE2 := fun n9 => c_ref14_Encode s1 (by decide) c8 c8_fits 0 (fun h => by cases h) H1 n9
  simp only [chk8, ↓reduceIte] at hE hE2
  refine awp_drp rfl zs [1, 2, 3] [.c, .q, .c, .m, .q, .q, .q, .q] [0, 1, 2, 3, 4, 5, 6, 7] [0, 1, 2, 3, 4, 5, 6, 7] (by kernel_rfl) (fun _ _ _ _ _ h => h) fun K hK => ?_
  try simp only [go_sem, seval, k1, cmdAV_sz, hcag]
  refine callQG_use Tryz.func41 rfl rfl rfl (fun _ n => (c_law14_one _ _)) ?_
  try simp only [go_sem, seval]
  refine callQG_use Tryz.func17 rfl rfl rfl (fun _ n9 => hE n9) ?_
  try simp only [go_sem, seval]
  refine hK _ _ _ ?_; clear hK K
  refine awp_drp rfl zs [1, 2, 3, 4] [.c, .q, .c, .m, .q, .q, .q, .q] [0, 1, 2, 3, 4, 5, 6, 7] [0, 1, 2, 3, 4, 5, 6, 7] (by kernel_rfl) (fun _ _ _ _ _ h => h) fun K hK => ?_
  try simp only [go_sem, seval, k1, cmdAV_sz, hcag]
  refine callQG_use Tryz.func41 rfl rfl rfl (fun _ n => (c_law14_one _ _)) ?_
  try simp only [go_sem, seval]
  refine callQG_use Tryz.func18 rfl rfl rfl (fun _ n9 => hE2 n9) ?_
  try simp only [go_sem, seval]
  refine hK _ _ _ ?_; clear hK K
  refine awp_reg zs [1, 2, 3, 4, 6, 7] fun K hK => ?_
  try simp only [go_sem, seval]
  refine callK_use Tryz.func41 rfl rfl rfl ((c_law14_one _ _)) ?_
  try simp only [go_sem, seval]
  have hD := fun (Hc : Heap) (nc : Nat) (hc : GOK 0 2 Hc nc) => c_order_Decode s1 (by decide) (cmdB c8) (by rw [c8_B]; decide) (fun _ => 0) hc (fun c h hk => by rw [rd8] at h; cases h; cases hk)
  simp only [dec8] at hD
  refine callK_use Tryz.func26 rfl rfl rfl (hD _ _ (hG.on (fun k hk => by (try simp only [Heap.put_get]); (repeat rw [if_neg (by omega)]); exact hl k hk) (by omega))) ?_
  try simp only [go_sem, seval, cmdAV_sz, hcmo]
  refine hK _ _ _ ?_; clear hK K
  refine awp_reg zs [1, 2, 3, 4, 6, 7, 8] fun K hK => ?_
  try simp only [go_sem, seval]
  repeat refine peel ?_
  refine hK _ _ _ ?_; clear hK K
  refine awp_wk_obj (n1 + 1) (ver := 0) (e := 6) (els := [.agg [.int .i64 0, .bool false, .int .i64 7, .agg [.nilsl, .nilsl, .bool false]]]) (els' := [repAV r8]) (by simp [Heap.put]) ⟨wk_r8, trivial⟩ ?_
  refine awp_reg zs [1, 2, 3, 4, 6, 7, 8, 9, 10] fun K hK => ?_
  try simp only [go_sem, seval, repAV_sz]
  repeat refine peel ?_
  have hR := fun (Hc : Heap) (nc : Nat) => c_order_EncodeReply r8 (by decide) (by decide) (by decide) Hc nc
  simp only [enc8] at hR
  refine callK_use Tryz.func33 rfl rfl rfl (hR _ _) ?_
  try simp only [go_sem, seval]
  refine hK _ _ _ ?_; clear hK K
  refine awp_reg zs [1, 2, 3, 4, 6, 7, 8, 10, 11, 12] fun K hK => ?_
  try simp only [go_sem, seval]
  have hP := fun (Hc : Heap) (nc : Nat) => c_order_DecodeReply (repB r8) (H := Hc) (n := nc)
  simp only [decr8] at hP
  refine callK_use Tryz.func37 rfl rfl rfl (hP _ _) ?_
  try simp only [go_sem, seval, repAV_sz]
  repeat refine peel ?_
  refine hK _ _ _ ?_; clear hK K
  refine awp_reg zs [1, 2, 3, 4, 6, 7, 8, 10, 11, 12, 14] fun K hK => ?_
  try simp only [go_sem, seval]
  refine callK_use Tryz.func41 rfl rfl rfl ((c_law14_one _ _)) ?_
  try simp only [go_sem, seval]
  have hN := fun (Hc : Heap) (nc : Nat) (hc : GOK 0 2 Hc nc) => Ret.wk (args := [schAV s1, .nilsl]) (c_order_Decode s1 (by decide) [] (by decide) (fun _ => 0) hc (fun c h hk => by rw [rd0] at h; cases h)) ⟨.refl _, .nilsl _, trivial⟩
  simp only [dec0] at hN
  refine callK_use Tryz.func26 rfl rfl rfl (hN _ _ (hG.on (fun k hk => by (try simp only [Heap.put_get]); (repeat rw [if_neg (by omega)]); exact hl k hk) (by omega))) ?_
  try simp only [go_sem, seval, cmdAV_sz]
  repeat refine peel ?_
  refine hK _ _ _ ?_; clear hK K
  refine awp_seq_k fun K1 hK1 => ?_
  refine awp_reg zs [1, 2, 3, 4, 6, 7, 8, 10, 11, 12, 14, 58] fun K hK => ?_
  try simp only [go_sem, seval]
  refine callK_use Tryz.func46 rfl rfl rfl ((c_law14_firsts (hG.on (fun k hk => by (try simp only [Heap.put_get]); (repeat rw [if_neg (by omega)]); exact hl k hk) (by omega)))) ?_
  try simp only [go_sem, seval]
  refine hK _ _ _ ?_; clear hK K
  refine awp_cnd (fun hb => ?_) (fun hb => ?_)
  ·skip
   exact absurd hb (by decide) --dead
  ·skip
   refine awp_skip ?_
   try simp only [go_sem, seval]
   refine hK1 _ _ _ ?_
   first | clear hK1 K1 | skip
   have hbb : (true == true) = true := rfl
   have hb0 : ((0 : Int) == 0) = true := rfl
   have hb1 : ((140 : Int) == 140) = true := rfl
   have hs1 : decide (cmdB c8 = cmdB c8) = true := by simp
   have hs2 : decide (c8 = c8) = true := by simp
   have hs3 : decide (r8 = r8) = true := by simp
   have hs4 : decide (c8 = zc) = false := by decide
   have e0 : (n + 3 = n1) = False := by simp; omega
   have e1 : (n + 3 = n1 + 1) = False := by simp; omega
   have e2 : (n + 3 = n1 + 2) = False := by simp; omega
   have e3 : (n + 3 = n1 + 3) = False := by simp; omega
   have hca : ∀ c, (cmdAV c).isAgg = true := fun _ => rfl
   have hcm : ∀ c, (cmdAV c).memOK = true := fun _ => rfl
   have hra : ∀ c, (repAV c).isAgg = true := fun _ => rfl
   have hrm : ∀ c, (repAV c).memOK = true := fun _ => rfl
   have hdt : decide True = true := rfl
   have e5 : (n1 = n1 + 1 + 2) = False := by simp; omega
   have e6 : (n1 + 1 = n1 + 1 + 2) = False := by simp
   have e7 : (n1 + 2 = n1 + 1 + 2) = False := by simp
   have e8 : (n + 1 + 2 = n1 + 1 + 2) = False := by simp; omega
   refine awp_reg zs [1, 6, 8, 11, 15] fun K hK => ?_
   try simp only [go_sem, seval, hbb, hb0, hb1]
   first | refine callG_use Tryz.func19 rfl rfl rfl (fun _ => c_law14_same (cmdB c8) (cmdB c8) (by rw [c8_B]; decide) _ _) ?_ | refine callK_use Tryz.func19 rfl rfl rfl (c_law14_same (cmdB c8) (cmdB c8) (by rw [c8_B]; decide) _ _) ?_
   try simp only [go_sem, seval, k1, cmdAV_sz, hcag, hdt, e5, e8, hbb, e0, e1, e2]
   first | refine callG_use Tryz.func28 rfl rfl rfl (fun _ => c_ref14_Same c8 c8 c8_fits _ _) ?_ | refine callK_use Tryz.func28 rfl rfl rfl (c_ref14_Same c8 c8 c8_fits _ _) ?_
   try simp only [go_sem, seval, hdt]
   refine hK _ _ _ ?_; clear hK K
   have hl2 := fun (k : Nat) (hk : k < n) => hl k hk
   have hC := fun (Hc : Heap) (n9 : Nat) (ha : Hc 0 = some (.glob 5 kindsL)) (hb : Hc 2 = some (.glob 1 tableL)) => Ret.below ha fun g1 => Ret.below hb fun g2 => c_order_Check s1 (by decide) c8 c8_fits 0 (fun h => by cases h) Hc n9 ⟨ha, hb, g1, g2⟩
   simp only [chk8] at hC
   have hnf : ((!false) == true) = true := rfl
   refine awp_drp rfl zs [0] [.m, .m, .q, .q, .c, .q, .m, .q, .q, .c, .q, .m, .q, .q, .c, .q, .q, .m, .c, .q, .c, .q, .q, .q] [0, 1, 2, 3, 4, 5, 6, 7, 8, 9, 10, 11, 12, 13, 14, 15, 16, 17, 18, 19, 20, 21, 22, 23] [0, 1, 2, 3, 4, 5, 6, 7, 8, 9, 10, 11, 12, 13, 14, 15, 16, 17, 18, 19, 20, 21, 22, 23] (by kernel_rfl) (fun _ _ _ _ _ h => h) fun K hK => ?_
   try simp only [go_sem, seval, k1, cmdAV_sz, repAV_sz, hcag, e5, e6, e7, e8, hbb, e0, e1, e2, hra]
   refine callQG_use Tryz.func38 rfl rfl rfl (fun _ n => (c_ref14_SameReply r8 r8 (by decide) (by decide) _ _)) ?_
   try simp only [go_sem, seval, hdt, hbb]
   refine callQG_use Tryz.func31 rfl rfl rfl (fun _ n => (c_order_Same c8 c8 c8_fits _ _)) ?_
   try simp only [go_sem, seval, hdt, hbb]
   refine callQG_use Tryz.func31 rfl rfl rfl (fun _ n => (Ret.wk (args := [cmdAV c8, cmdZ]) (c_order_Same c8 zc c8_fits _ _) ⟨.refl _, cmdZ_wk, trivial⟩)) ?_
   try simp only [go_sem, seval, Bool.not_false, hbb, hs4]
   refine callQG_use Tryz.func41 rfl rfl rfl (fun _ n => (c_law14_one _ _)) ?_
   try simp only [go_sem, seval]
   refine callQG_use Tryz.func15 rfl rfl rfl (fun _ n9 => hC _ n9 (by rw [Heap.put_ne _ _ (by have := hG.gek; omega), Heap.put_ne _ _ (by have := hG.gek; omega), Heap.put_ne _ _ (by have := hG.gek; omega), Heap.put_ne _ _ (by have := hG.gek; omega)]; exact (hl _ hG.gek).trans hG.kinds) (by rw [Heap.put_ne _ _ (by have := hG.get; omega), Heap.put_ne _ _ (by have := hG.get; omega), Heap.put_ne _ _ (by have := hG.get; omega), Heap.put_ne _ _ (by have := hG.get; omega)]; exact (hl _ hG.get).trans hG.table)) ?_
   try simp only [go_sem, seval, hb0]
   refine hK _ _ _ ?_; clear hK K
   refine awp_ret ?_
   try simp only [go_sem, seval]
   refine ⟨_, rfl, fun k hk => ?_, .kl trivial⟩
   (repeat rw [if_neg (by omega)])
   exact hl k hk
end Go.Proofs.YtifnhpmeoogedaaGreatDoor
namespace Go.Rt
open Go Go.Sx
end Go.Rt
namespace Go.Sx
open Go
mutual
def AV.fr (n : Nat) : AV → Prop
  | .int _ _ => True
  | .bool _ => True
  | .str _ => True
  | .nilp => True
  | .nilsl => True
  | .nilf => True
  | .nilm => True
  | .nili => True
  | .loc k _ _ _ _ => n ≤ k
  | .osl k _ _ _ => n ≤ k
  | .agg fs => AV.frs n fs
  | .tup fs => AV.frs n fs
  | .iface _ v => v.fr n
  | _ => False
def AV.frs (n : Nat) : List AV → Prop
  | [] => True
  | f :: fs => f.fr n ∧ AV.frs n fs
end
mutual
theorem Rel.frC {c c' : Ctx} {n : Nat} (h : ∀ k v l, n ≤ k → c.ρ k v = some l → c'.ρ k v = some l) : ∀ (av : AV) (m : Bool) (cs : List Value), av.fr n → Rel c av m cs → Rel c' av m cs
  | .int _ _, _, _, _, hr => by simpa [Rel] using hr
  | .bool _, _, _, _, hr => by simpa [Rel] using hr
  | .str _, _, _, _, hr => by simpa [Rel] using hr
  | .nilp, _, _, _, hr => by simpa [Rel] using hr
  | .nilsl, _, _, _, hr => by simpa [Rel] using hr
  | .nilf, _, _, _, hr => by simpa [Rel] using hr
  | .nilm, _, _, _, hr => by simpa [Rel] using hr
  | .nili, _, _, _, hr => by simpa [Rel] using hr
  | .loc _ _ _ _ _, _, _, hk, hr => by
    simp only [Rel] at hr ⊢
    simp only [AV.fr] at hk
    obtain ⟨b, cap, esz, hl, e⟩ := hr
    exact ⟨b, cap, esz, h _ _ _ hk hl, e⟩
  | .osl _ _ _ _, _, _, hk, hr => by
    simp only [Rel] at hr ⊢
    simp only [AV.fr] at hk
    obtain ⟨l, hl, hm⟩ := hr
    exact ⟨l, h _ _ _ hk hl, hm⟩
  | .agg fs, true, _, hk, hr => by simp only [Rel] at hr ⊢; simp only [AV.fr] at hk; exact RelF.frC h fs _ hk hr
  | .agg fs, false, _, hk, hr => by
    simp only [Rel] at hr ⊢
    simp only [AV.fr] at hk
    obtain ⟨arr, e, hf⟩ := hr
    exact ⟨arr, e, RelF.frC h fs _ hk hf⟩
  | .tup vs, false, _, hk, hr => by
    simp only [Rel] at hr ⊢
    simp only [AV.fr] at hk
    obtain ⟨arr, e, hf⟩ := hr
    exact ⟨arr, e, RelT.frC h vs _ hk hf⟩
  | .tup _, true, _, _, hr => by simp [Rel] at hr
  | .iface _ v, _, _, hk, hr => by
    simp only [Rel] at hr ⊢
    simp only [AV.fr] at hk
    obtain ⟨x, e, hx⟩ := hr
    exact ⟨x, e, Rel.frC h v _ _ hk hx⟩
  | .rp _, _, _, hk, _ => by simp [AV.fr] at hk
  | .sl _ _, _, _, hk, _ => by simp [AV.fr] at hk
  | .fn _ _ _, _, _, hk, _ => by simp [AV.fr] at hk
  | .omap _, _, _, hk, _ => by simp [AV.fr] at hk
  | .opt _ _, _, _, hk, _ => by simp [AV.fr] at hk
  | .raw _, _, _, hk, _ => by simp [AV.fr] at hk
  | .junk, _, _, hk, _ => by simp [AV.fr] at hk
theorem RelF.frC {c c' : Ctx} {n : Nat} (h : ∀ k v l, n ≤ k → c.ρ k v = some l → c'.ρ k v = some l) : ∀ (fs : List AV) (cs : List Value), AV.frs n fs → RelF c fs cs → RelF c' fs cs
  | [], _, _, hr => by simpa [RelF] using hr
  | f :: fs, _, hk, hr => by
    simp only [RelF] at hr ⊢
    simp only [AV.frs] at hk
    obtain ⟨c1, c2, e, h1, h2⟩ := hr
    exact ⟨c1, c2, e, Rel.frC h f _ _ hk.1 h1, RelF.frC h fs _ hk.2 h2⟩
theorem RelT.frC {c c' : Ctx} {n : Nat} (h : ∀ k v l, n ≤ k → c.ρ k v = some l → c'.ρ k v = some l) : ∀ (fs : List AV) (cs : List Value), AV.frs n fs → RelT c fs cs → RelT c' fs cs
  | [], _, _, hr => by simpa [RelT] using hr
  | f :: fs, _, hk, hr => by
    simp only [RelT] at hr ⊢
    simp only [AV.frs] at hk
    obtain ⟨v, r, e, h1, h2⟩ := hr
    exact ⟨v, r, e, Rel.frC h f _ _ hk.1 h1, RelT.frC h fs _ hk.2 h2⟩
end
def Globs (H H0 : Heap) : Prop := ∀ k o, H0 k = some o → H k = some o ∧ ∃ e els, o = .glob e els ∧ AV.kls 0 els
noncomputable def Ctx.lendC (c : Ctx) (H H0 : Heap) (w : World) : Ctx where
  ρ := fun k v => match H0 k with | some _ => c.ρ k v | none => none
  ro := (c.frz H 0 w).ro
theorem Ctx.lendC_low (c : Ctx) (H H0 : Heap) (w : World) : (c.frz H 0 w).low (c.lendC H H0 w) 0 := ⟨fun hk => by omega, fun hb => hb⟩
theorem FrzL.kls0 {H : Heap} {a b : List AV} (h : FrzL H 0 a b) {c : Ctx} {cs : List Value} {n : Nat} {w : World} (hs : Sim c H n w) (hr : RelT c a cs) : AV.kls 0 b := by
  have := FrzL.relT hs h hr
  exact klt_of_rel (c := c.frz H 0 w) (n := 0) (fun k v _ => by show (if k < 0 then c.ρ k v else none) = none; rw [if_neg (by omega)]) _ _ this
theorem Sim.lendC {c : Ctx} {H H0 : Heap} {n : Nat} {w : World} (hs : Sim c H n w) (hG : Globs H H0) : Sim (c.lendC H H0 w) H0 n w where
  ro := fun b a hb => by
    simp only [Ctx.lendC, Ctx.frz] at hb
    split at hb
    · rename_i a' hr; cases hb; exact hs.ro b _ hr
    · split at hb
      · split at hb
        · rename_i _ _ hw; cases hb; exact ⟨_, _, hw⟩
        · simp at hb
      · simp at hb
  own := fun k o hk => by
    obtain ⟨hH, e, els, rfl, hkl⟩ := hG k o hk
    have ho := hs.own k _ hH
    simp only [OwnOK] at ho ⊢
    obtain ⟨h1, h2, arr, ds, h3, h4, h5⟩ := ho
    refine ⟨by simp only [Ctx.lendC, hk]; exact h1, h2, arr, ds, (c.frz_low H 0 w).ro h3, ?_, h5⟩
    exact RelF.low (c := c) (c' := c.lendC H H0 w) (n := 0) ⟨fun hk => by omega, fun hb => (c.frz_low H 0 w).ro hb⟩ els ds hkl h4
  sep := fun k o b hk hb => by
    obtain ⟨hH, e, els, rfl, hkl⟩ := hG k o hk
    have ho := hs.own k _ hH
    simp only [OwnOK] at ho
    simp only [blockOf, AObj.ver, Ctx.lendC, hk, ho.1] at hb
    simp at hb
  inj := fun k k' o o' b hk hk' hb _ => by
    obtain ⟨hH, e, els, rfl, hkl⟩ := hG k o hk
    have ho := hs.own k _ hH
    simp only [OwnOK] at ho
    simp only [blockOf, AObj.ver, Ctx.lendC, hk, ho.1] at hb
    simp at hb
  fresh := fun k hk => by
    have h0 : H0 k = none := by
      cases h : H0 k with
      | none => rfl
      | some o => have := (hG k o h).1; rw [(hs.fresh k hk).1] at this; simp at this
    exact ⟨h0, fun v => by simp only [Ctx.lendC, h0]⟩
  vers := fun k o v hk hv => by
    obtain ⟨hH, _⟩ := hG k o hk
    simp only [Ctx.lendC, hk]
    exact hs.vers k o v hH hv
structure NewRes (n : Nat) (H0 : Heap) (res : ARes) (H' : Heap) (n' : Nat) : Prop where
  nn : n ≤ n'
  low : ∀ k, k < n → H' k = H0 k
  new : ∀ k o, n ≤ k → H' k = some o → ∃ v e els, o = .arr v e els ∧ AV.frs n els
  val : match res with | .val r => r.fr n | .pan p => p.fr n
def Heap.over (n : Nat) (H H' : Heap) : Heap := fun k => if k < n then H k else H' k
theorem ACalls.lend {P : Program} {f : FuncId} {args args' : List AV} {H H0 : Heap} {n : Nat} {K : ARes → Heap → Nat → Prop} (hG : Globs H H0) (hL : FrzL H 0 args args') (h : ACalls P f args' H0 n K)
    (hK : ∀ res H' n', K res H' n' → NewRes n H0 res H' n') : ACalls P f args H n (fun res H2 n2 => ∃ H', K res H' n2 ∧ H2 = Heap.over n H H') :=
  fun c w vs hs hr => (h (c.lendC H H0 w) w vs (hs.lendC hG) (RelT.low (c.lendC_low H H0 w) _ _ (hL.kls0 hs hr) (FrzL.relT hs hL hr))).mono fun e w' ⟨res, c', H', n', hk, hst, hm⟩ => by
    have hN := hK _ _ _ hk
    have hno : ∀ b, ¬ Owned (c.lendC H H0 w) H0 b := fun b ⟨k, o, hk, hb⟩ => by
      obtain ⟨hH, e, els, rfl, hkl⟩ := hG k o hk
      have ho := hs.own k _ hH
      simp only [OwnOK] at ho
      simp only [blockOf, AObj.ver, Ctx.lendC, hk, ho.1] at hb
      simp at hb
    have hkeep : ∀ b, b < w.heap.size → w'.heap[b]? = w.heap[b]? := fun b hb => hst.fr.keep b hb (hno b)
    have hnew : ∀ b k o, n ≤ k → H' k = some o → blockOf c' k o = some b → w.heap.size ≤ b := fun b k o _ ho hb => by
      rcases hst.new b ⟨k, o, ho, hb⟩ with h | h
      · exact absurd h (hno b)
      · exact h
    let c2 : Ctx := { ρ := fun k v => if k < n then c.ρ k v else c'.ρ k v, ro := c.ro }
    have hle : c.le c2 := ⟨fun {k v l} hk => by
      show (if k < n then c.ρ k v else c'.ρ k v) = some l
      rcases Nat.lt_or_ge k n with h | h
      · rw [if_pos h]; exact hk
      · rw [(hs.fresh k h).2 v] at hk; simp at hk, fun hb => hb⟩
    have hlo : ∀ k v, k < n → c2.ρ k v = c.ρ k v := fun k v h => if_pos h
    have hhi : ∀ k v, n ≤ k → c2.ρ k v = c'.ρ k v := fun k v h => if_neg (by omega)
    have hblo : ∀ k o, k < n → blockOf c2 k o = blockOf c k o := fun k o h => by unfold blockOf; rw [hlo _ _ h]
    have hbhi : ∀ k o, n ≤ k → blockOf c2 k o = blockOf c' k o := fun k o h => by unfold blockOf; rw [hhi _ _ h]
    have hfr : ∀ k v l, n ≤ k → c'.ρ k v = some l → c2.ρ k v = some l := fun k v l hk h => by rw [hhi k v hk]; exact h
    have hlt : ∀ b a, c.ro b = some a → b < w.heap.size := fun b a hb => by
      obtain ⟨ty, fr, hw⟩ := hs.ro b a hb
      rcases Nat.lt_or_ge b w.heap.size with h | h
      · exact h
      · rw [Array.getElem?_eq_none h] at hw; simp at hw
    have hH2 : ∀ k o, Heap.over n H H' k = some o → (k < n ∧ H k = some o) ∨ (n ≤ k ∧ H' k = some o) := fun k o hk => by
      unfold Heap.over at hk
      split at hk
      · rename_i h; exact .inl ⟨h, hk⟩
      · rename_i h; exact .inr ⟨by omega, hk⟩
    refine ⟨res, c2, Heap.over n H H', n', ⟨H', hk, rfl⟩, ?_, ?_⟩
    · exact {
        le := hle
        sim := {
          ro := fun b a hb => by
            obtain ⟨ty, fr, hw⟩ := hs.ro b a hb
            exact ⟨ty, fr, by rw [hkeep b (hlt b a hb)]; exact hw⟩
          own := fun k o hk => by
            rcases hH2 k o hk with ⟨h1, h2⟩ | ⟨h1, h2⟩
            · exact (hs.own k o h2).mono hle fun b hb => hkeep b ((hs.own k o h2).lt hb)
            · obtain ⟨v, e, els, rfl, hf⟩ := hN.new k o h1 h2
              have ho := hst.sim.own k _ h2
              simp only [OwnOK] at ho ⊢
              obtain ⟨l, hl, hm⟩ := ho
              refine ⟨l, hfr _ _ _ h1 hl, ?_⟩
              cases l with
              | nil => exact hm
              | blk b cap e' =>
                obtain ⟨q1, q2, q3, arr, ty, ds, q4, q5, q6, q7⟩ := hm
                exact ⟨q1, q2, q3, arr, ty, ds, q4, q5, RelF.frC hfr _ _ hf q6, q7⟩
          sep := fun k o b hk hb => by
            rcases hH2 k o hk with ⟨h1, h2⟩ | ⟨h1, h2⟩
            · rw [hblo k o h1] at hb; exact hs.sep k o b h2 hb
            · rw [hbhi k o h1] at hb
              have := hnew b k o h1 h2 hb
              cases hr : c.ro b with
              | none => rfl
              | some a => have := hlt b a hr; omega
          inj := fun k1 k2 o1 o2 b g1 g2 b1 b2 => by
            rcases hH2 k1 o1 g1 with ⟨h1, h2⟩ | ⟨h1, h2⟩ <;> rcases hH2 k2 o2 g2 with ⟨h3, h4⟩ | ⟨h3, h4⟩
            · rw [hblo _ _ h1] at b1; rw [hblo _ _ h3] at b2; exact hs.inj k1 k2 o1 o2 b h2 h4 b1 b2
            · rw [hblo _ _ h1] at b1; rw [hbhi _ _ h3] at b2
              have := hnew b k2 o2 h3 h4 b2
              have := (hs.own k1 o1 h2).lt b1
              omega
            · rw [hbhi _ _ h1] at b1; rw [hblo _ _ h3] at b2
              have := hnew b k1 o1 h1 h2 b1
              have := (hs.own k2 o2 h4).lt b2
              omega
            · rw [hbhi _ _ h1] at b1; rw [hbhi _ _ h3] at b2; exact hst.sim.inj k1 k2 o1 o2 b h2 h4 b1 b2
          fresh := fun k hk => by
            have hnk : n ≤ k := Nat.le_trans hN.nn hk
            exact ⟨by show (if k < n then H k else H' k) = none; rw [if_neg (by omega)]; exact (hst.sim.fresh k hk).1, fun v => by rw [hhi k v hnk]; exact (hst.sim.fresh k hk).2 v⟩
          vers := fun k o v hk hv => by
            rcases hH2 k o hk with ⟨h1, h2⟩ | ⟨h1, h2⟩
            · rw [hlo k v h1]; exact hs.vers k o v h2 hv
            · rw [hhi k v h1]; exact hst.sim.vers k o v h2 hv }
        fr := { os := hst.fr.os, tape := hst.fr.tape, output := hst.fr.output, size := hst.fr.size, keep := fun b hb _ => hkeep b hb }
        new := fun b ⟨k, o, hk, hb⟩ => by
          rcases hH2 k o hk with ⟨h1, h2⟩ | ⟨h1, h2⟩
          · rw [hblo k o h1] at hb; exact .inl ⟨k, o, h2, hb⟩
          · rw [hbhi k o h1] at hb; exact .inr (hnew b k o h1 h2 hb) }
    · have hv := hN.val
      cases e with
      | returned v =>
        cases res with
        | val r => exact Rel.frC hfr _ _ _ hv hm
        | pan p => exact hm.elim
      | panicked ch =>
        cases res with
        | val r => exact hm.elim
        | pan p =>
          obtain ⟨v, e1, e2⟩ := hm
          exact ⟨v, e1, Rel.frC hfr _ _ _ hv e2⟩
      | outgrown => cases res <;> exact hm.elim
end Go.Sx
namespace Go.Sx
open Go
theorem Ret.lendQ {P : Program} {f : FuncId} {args args' : List AV} {H H0 : Heap} {n : Nat} {r : AV} (hG : Globs H H0) (hL : FrzL H 0 args args') (hr : r.fr n) (h : Ret P f args' H0 n r H0 n) : Ret P f args H n r H n := fun c w vs hs hrel => by
  have h0 : ∀ k, n ≤ k → H0 k = none := fun k hk => by
    cases he : H0 k with
    | none => rfl
    | some o => have := (hG k o he).1; rw [(hs.fresh k hk).1] at this; simp at this
  have heq : Heap.over n H H0 = H := funext fun k => by
    unfold Heap.over
    split
    · rfl
    · rw [h0 k (by omega), (hs.fresh k (by omega)).1]
  refine (ACalls.lend hG hL h (fun res H' n' ⟨e1, e2, e3⟩ => ?_) c w vs hs hrel).mono fun e w' ⟨res, c', H', n', ⟨H1, ⟨e1, e2, e3⟩, e4⟩, hst, hm⟩ => ⟨res, c', H', n', ⟨e1, by rw [e4, e2, heq], e3⟩, hst, hm⟩
  subst e1; subst e2; subst e3
  exact ⟨Nat.le_refl _, fun _ _ => rfl, fun k o hk ho => by rw [h0 k hk] at ho; simp at ho, hr⟩
theorem Globs.none (H : Heap) : Globs H fun _ => none := fun k o h => by simp at h
end Go.Sx