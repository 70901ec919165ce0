/- Own layer: bytes that are laid out with marks behind them, as one's own. Of the program; no condition. -/
import Derived.Test.YtifnhpmeoogedaaGreatDoorPK
set_option linter.unusedSimpArgs false
set_option linter.unusedVariables false
namespace Go.Proofs.YtifnhpmeoogedaaGreatDoor
open Go Go.Sx Go.Rt Go.Proofs
theorem o_law14_laid (b : List UInt8) (k : Int) (hk0 : 0 ≤ k) (hk1 : k ≤ 1048576) (H : Heap) (n : Nat) : Ret Tryz.prog 25 [bys b, .int .i64 k] H n (.osl n 72 0 (b.take k.toNat).length) (H.put n (some (.arr 72 1 ((b.take k.toNat ++ marks).map byteAV)))) (n + 1) := by
  generalize hw : b.take k.toNat = w
  refine acalls_of_awp Tryz.func25 rfl Tryz.ntmps25 (congrArg Array.toList Tryz.results25) (by simp) ?_
  simp only [go_sem]
  refine awp_reg zs [0, 1] fun K hK => ?_
  try simp only [go_sem, seval]
  repeat (first | (refine And.intro ?_ ?_; · first | exact ⟨.inr trivial, by omega, by omega⟩ | exact ⟨by omega, trivial, by omega, by omega⟩ | exact ⟨by simp; try omega, .inr trivial, by omega, by omega⟩ | exact ⟨rfl, by simp [AV.sz, AV.memOK]⟩) | refine peel ?_)
  refine hK _ _ _ ?_; clear hK K
  refine awp_seq_jl [0] (fun T' H' n' => T' = tl [(0, bys w)] ∧ H' = H ∧ n' = n) ?_ ?_
  ·skip
   refine awp_reg zs [0, 1, 10] fun K hK => ?_
   try simp only [go_sem, seval, List.length_map]
   repeat (first | (refine And.intro ?_ ?_; · first | exact ⟨.inr trivial, by omega, by omega⟩ | exact ⟨by omega, trivial, by omega, by omega⟩ | exact ⟨by simp; try omega, .inr trivial, by omega, by omega⟩ | exact ⟨rfl, by simp [AV.sz, AV.memOK]⟩) | refine peel ?_)
   refine hK _ _ _ ?_; clear hK K
   refine awp_cnd (fun hb => ?_) (fun hb => ?_)
   ·skip
    refine awp_reg1 zs [0] fun K hK => ?_
    try simp only [go_sem, seval, List.length_map]
    repeat (first | (refine And.intro ?_ ?_; · first | exact ⟨by simp, by simpa using hk0, by simp at hb ⊢; omega, fun m h => h.elim⟩ | exact ⟨.inr trivial, by omega, by omega⟩ | exact ⟨by omega, trivial, by omega, by omega⟩ | exact ⟨by simp; try omega, .inr trivial, by omega, by omega⟩ | exact ⟨rfl, by simp [AV.sz, AV.memOK]⟩) | refine peel ?_)
    refine hK _ _ _ ?_; clear hK K
    try simp only [go_sem, seval]
    first | (simp [List.map_take, ← hw]; done) | (rw [← hw, List.take_of_length_le (by have := of_decide_eq_false hb; omega)])
   ·skip
    refine awp_skip ?_
    try simp only [go_sem, seval]
    first | (simp [List.map_take, ← hw]; done) | (rw [← hw, List.take_of_length_le (by have := of_decide_eq_false hb; omega)])
  rintro T1 H1 n1 ⟨rfl, rfl, rfl⟩
  have hm : w.length ≤ 1048576 := by rw [← hw]; simp; omega
  refine awp_reg zs [0, 5] fun K hK => ?_
  try simp only [go_sem, seval]
  repeat (first | (refine And.intro ?_ ?_; · first | exact ⟨.inr trivial, by omega, by omega⟩ | exact ⟨by omega, trivial, by omega, by omega⟩ | exact ⟨by simp; try omega, .inr trivial, by omega, by omega⟩ | exact ⟨rfl, by simp [AV.sz, AV.memOK]⟩) | refine peel ?_)
  refine hK _ _ _ ?_; clear hK K
  refine awp_adopt_tmp 5 1 rfl ?_
  simp only [go_sem, seval]
  refine awp_reg zs [0, 5] fun K hK => ?_
  try simp only [go_sem, seval, List.length_map]
  repeat (first | (refine And.intro ?_ ?_; · first | exact ⟨.inr trivial, by omega, by omega⟩ | exact ⟨by omega, trivial, by omega, by omega⟩ | exact ⟨by simp; try omega, .inr trivial, by omega, by omega⟩ | exact ⟨rfl, by simp [AV.sz, AV.memOK]⟩) | refine peel ?_)
  refine hK _ _ _ ?_; clear hK K
  refine awp_reg zs [0, 5] fun K hK => ?_
  try simp only [go_sem, seval, List.length_map]
  repeat (first | (refine And.intro ?_ ?_; · first | exact ⟨.inr trivial, by omega, by omega⟩ | exact ⟨by omega, trivial, by omega, by omega⟩ | exact ⟨by simp; try omega, .inr trivial, by omega, by omega⟩ | exact ⟨rfl, by simp [AV.sz, AV.memOK]⟩) | refine peel ?_)
  refine hK _ _ _ ?_; clear hK K
  refine awp_seq_k fun K1 hK1 => ?_
  refine awp_reg zs [0, 5, 6] fun K hK => ?_
  try simp only [go_sem, seval]
  repeat (first | (refine And.intro ?_ ?_; · first | exact ⟨.inr trivial, by omega, by omega⟩ | exact ⟨by omega, trivial, by omega, by omega⟩ | exact ⟨by simp; try omega, .inr trivial, by omega, by omega⟩ | exact ⟨rfl, by simp [AV.sz, AV.memOK]⟩) | refine peel ?_)
  refine hK _ _ _ ?_; clear hK K
  refine awp_block ?_
  refine awp_loop (fun T' H' n' => ∃ (i : Nat), i ≤ 70 ∧ T' = tl [(0, bys w), (5, .osl n1 (2 + i) 0 (w.length + 3 + i)), (6, .int .i64 i)] ∧ H' = H1.put n1 (some (.arr (2 + i) 1 ((w ++ [201, 202, 203] ++ List.replicate i 206).map byteAV))) ∧ n' = n1 + 1) (fun T' _ _ => 70 - iv (T' 6)) ?_ ?_
  ·skip
   exact ⟨0, by omega, rfl, by rw [List.take_of_length_le (by simp), List.map_append, List.map_append]; simp; rfl, rfl⟩
  intro T1 H1 n1
  rintro ⟨i, hi, rfl, rfl, rfl⟩
  refine awp_seq_k fun K2 hK2 => ?_
  refine awp_reg zs [0, 5, 6, 21] fun K hK => ?_
  try simp only [go_sem, seval]
  repeat (first | (refine And.intro ?_ ?_; · first | exact ⟨.inr trivial, by omega, by omega⟩ | exact ⟨by omega, trivial, by omega, by omega⟩ | exact ⟨by simp; try omega, .inr trivial, by omega, by omega⟩ | exact ⟨rfl, by simp [AV.sz, AV.memOK]⟩) | refine peel ?_)
  refine hK _ _ _ ?_; clear hK K
  refine awp_cnd (fun hb => ?_) (fun hb => ?_)
  ·skip
   have hlt : i < 70 := by have := of_decide_eq_true hb; omega
   refine awp_skip ?_
   try simp only [go_sem, seval]
   refine hK2 _ _ _ ?_
   first | clear hK2 K2 | skip
   refine awp_seq_k fun K3 hK3 => ?_
   refine awp_block ?_
   refine awp_reg1 zs [0, 5, 6] fun K hK => ?_
   try simp only [go_sem, seval, List.length_map]
   repeat (first | (refine And.intro ?_ ?_; · first | exact ⟨.inr trivial, by omega, by omega⟩ | exact ⟨by omega, trivial, by omega, by omega⟩ | exact ⟨by simp; try omega, .inr trivial, by omega, by omega⟩ | exact ⟨rfl, by simp [AV.sz, AV.memOK]⟩) | refine peel ?_)
   refine hK _ _ _ ?_; clear hK K
   try simp only [go_sem, seval]
   refine hK3 _ _ _ ?_
   first | clear hK3 K3 | skip
   refine awp_reg1 zs [0, 5, 6] fun K hK => ?_
   try simp only [go_sem, seval]
   repeat (first | (refine And.intro ?_ ?_; · first | exact ⟨.inr trivial, by omega, by omega⟩ | exact ⟨by omega, trivial, by omega, by omega⟩ | exact ⟨by simp; try omega, .inr trivial, by omega, by omega⟩ | exact ⟨rfl, by simp [AV.sz, AV.memOK]⟩) | refine peel ?_)
   refine hK _ _ _ ?_; clear hK K
   try simp only [go_sem, seval]
   refine ⟨⟨i + 1, by omega, by rw [w1 (by omega)]; rfl, ?_⟩, by rw [w1 (by omega)]; simp; omega⟩
   rw [List.take_of_length_le (by simp; omega), List.replicate_succ', ← List.append_assoc, List.map_append (l₂ := [206])]; rfl
  ·skip
   have hi7 : i = 70 := by have := of_decide_eq_false hb; omega
   subst hi7
   refine awp_exit ?_
   try simp only [go_sem, seval]
   refine hK1 _ _ _ ?_
   first | clear hK1 K1 | skip
   refine awp_reg zs [4] fun K hK => ?_
   try simp only [go_sem, seval, List.length_map, Option.getD_some, Option.getD_none, Int.toNat_natCast]
   repeat (first | (refine And.intro ?_ ?_; · first | exact ⟨by omega, by omega, fun m h => h.elim⟩ | exact ⟨.inr trivial, by omega, by omega⟩ | exact ⟨by omega, trivial, by omega, by omega⟩ | exact ⟨by simp; try omega, .inr trivial, by omega, by omega⟩ | exact ⟨rfl, by simp [AV.sz, AV.memOK]⟩) | refine peel ?_)
   refine hK _ _ _ ?_; clear hK K
   refine awp_ret ?_
   try simp only [go_sem, seval]
   exact ⟨by rw [Nat.sub_zero], by rw [List.append_assoc]; rfl⟩
end Go.Proofs.YtifnhpmeoogedaaGreatDoor
namespace Go.Rt
open Go Go.Sx
def cmdX (c : CmdE) (whr : List UInt8) (row conds ops frm to fams pre token : AV) : AV :=
  .agg [.int .i64 c.kind, .int .i64 c.client, .int .i64 c.serial, row, conds, ops, .int .i64 c.n, .agg [frm, to, fams, pre, .int .i64 c.q.time, .int .i64 c.q.n, .int .i64 c.q.rows, .bool c.q.rev, .str whr, token]]
theorem own_cmdX {H : Heap} (c : CmdE) (whr : List UInt8) {r d o f t m p k r' d' o' f' t' m' p' k' : AV} {ks : List Nat} (h : OwnL H [r, d, o, f, t, p, k, m] [r', d', o', f', t', p', k', m'] ks) :
    ∃ ks', ks'.Perm ks ∧ Own H (cmdX c whr r d o f t m p k) (cmdX c whr r' d' o' f' t' m' p' k') ks' := by
  cases h with | cons h1 h =>
  cases h with | cons h2 h =>
  cases h with | cons h3 h =>
  cases h with | cons h4 h =>
  cases h with | cons h5 h =>
  cases h with | cons h6 h =>
  cases h with | cons h7 h =>
  cases h with | cons h8 h =>
  cases h with | nil =>
  refine ⟨_, ?_, .agg (.cons (.nk trivial) (.cons (.nk trivial) (.cons (.nk trivial) (.cons h1 (.cons h2 (.cons h3 (.cons (.nk trivial) (.cons (.agg (.cons h4 (.cons h5 (.cons h8 (.cons h6 (.cons (.nk trivial) (.cons (.nk trivial) (.cons (.nk trivial) (.cons (.nk trivial) (.cons (.nk trivial) (.cons h7 .nil))))))))))) .nil))))))))⟩
  refine List.perm_iff_count.2 fun a => ?_
  simp only [List.count_append, List.count_nil]
  omega
theorem own_cond {H : Heap} {k1 k2 v1 v2 : Nat} {x : CondE} {y1 y2 : List UInt8} (h1 : H k1 = some (.arr v1 1 ((x.qual.take 5000 ++ y1).map byteAV))) (h2 : H k2 = some (.arr v2 1 ((x.value.take 5000 ++ y2).map byteAV))) :
    Own H (.agg [.int .i64 x.kind, .int .i64 x.fam, .osl k1 v1 0 (x.qual.take 5000).length, .osl k2 v2 0 (x.value.take 5000).length]) (condAV (condT x)) [k1, k2] :=
  .agg (.cons (ks := []) (.nk trivial) (.cons (ks := []) (.nk trivial) (.cons (ks := [k1]) (own_laid h1) (.cons (ks := [k2]) (js := []) (own_laid h2) .nil))))
theorem own_op {H : Heap} {k1 k2 v1 v2 : Nat} {x : OpE} {y1 y2 : List UInt8} (h1 : H k1 = some (.arr v1 1 ((x.qual.take 5000 ++ y1).map byteAV))) (h2 : H k2 = some (.arr v2 1 ((x.value.take 5000 ++ y2).map byteAV))) :
    Own H (.agg [.int .i64 x.kind, .int .i64 x.fam, .osl k1 v1 0 (x.qual.take 5000).length, .int .i64 x.ts, .osl k2 v2 0 (x.value.take 5000).length, .int .i64 x.delta]) (opAV (opT x)) [k1, k2] :=
  .agg (.cons (ks := []) (.nk trivial) (.cons (ks := []) (.nk trivial) (.cons (ks := [k1]) (own_laid h1) (.cons (ks := []) (.nk trivial) (.cons (ks := [k2]) (js := []) (own_laid h2) (.cons (ks := []) (js := []) (.nk trivial) .nil))))))
end Go.Rt
namespace Go.Rt
open Go Go.Sx
theorem cmd_end {H0 H : Heap} {n0 n : Nat} {c : CmdE} {whr : List UInt8} {r d o f t m p k r' d' o' f' t' m' p' k' R : AV} {ks : List Nat} (hp : Pile (n0 + 2) [r, d, o, f, t, p, k, m] [r', d', o', f', t', p', k', m'] ks H n) (hlow : ∀ j, j < n0 → H j = H0 j) (hn : n0 ≤ n)
    (hR : R = cmdX c whr r' d' o' f' t' m' p' k') : OAns H0 n0 R (.val (cmdX c whr r d o f t m p k)) H n := by
  obtain ⟨ks', hpm, ho⟩ := own_cmdX c whr hp.own
  exact ⟨_, ks', rfl, hR ▸ ho, hpm.nodup_iff.2 hp.nd, fun j hj => by have := hp.lo j (hpm.mem_iff.1 hj); omega, hlow, hn⟩
end Go.Rt
namespace Go.Rt
open Go Go.Sx
def CmdAns (H0 : Heap) (n0 : Nat) (c : CmdE) (res : ARes) (H : Heap) (n : Nat) : Prop := ∃ kr vr lr kc vc lc ko vo lo kf vf lf kt vt lt kp vp lp kk vk lk km vm lm ks,
  res = .val (cmdX c c.q.whr (.osl kr vr 0 lr) (.osl kc vc 0 lc) (.osl ko vo 0 lo) (.osl kf vf 0 lf) (.osl kt vt 0 lt) (.osl km vm 0 lm) (.osl kp vp 0 lp) (.osl kk vk 0 lk)) ∧
  Pile (n0 + 2) [.osl kr vr 0 lr, .osl kc vc 0 lc, .osl ko vo 0 lo, .osl kf vf 0 lf, .osl kt vt 0 lt, .osl kp vp 0 lp, .osl kk vk 0 lk, .osl km vm 0 lm] [bys c.row, .sl 4 (c.conds.map condAV), .sl 6 (c.ops.map opAV), bys c.q.frm, bys c.q.to, bys c.q.pre, bys c.q.token, numsAV c.q.fams] ks H n ∧
  (∀ j, j < n0 → H j = H0 j) ∧ n0 ≤ n
theorem CmdAns.oans {H0 : Heap} {n0 : Nat} {c : CmdE} {res : ARes} {H : Heap} {n : Nat} (h : CmdAns H0 n0 c res H n) : OAns H0 n0 (cmdAV c) res H n := by
  obtain ⟨kr, vr, lr, kc, vc, lc, ko, vo, lo, kf, vf, lf, kt, vt, lt, kp, vp, lp, kk, vk, lk, km, vm, lm, ks, rfl, hp, hlow, hn⟩ := h
  exact cmd_end (c := c) (whr := c.q.whr) hp hlow hn rfl
end Go.Rt
namespace Go.Proofs.YtifnhpmeoogedaaGreatDoor
open Go Go.Sx Go.Rt Go.Proofs
theorem cmdX_of (c : CmdE) : cmdAV c = cmdX c c.q.whr (bys c.row) (.sl 4 (c.conds.map condAV)) (.sl 6 (c.ops.map opAV)) (bys c.q.frm) (bys c.q.to) (numsAV c.q.fams) (bys c.q.pre) (bys c.q.token) := rfl
set_option maxRecDepth 100000 in
set_option maxHeartbeats 3200000 in
theorem x_law14_command (c : CmdE) (H : Heap) (n : Nat) : ACalls Tryz.prog 14 [cmdAV c] H n (CmdAns H n (cmdT c)) := by
  have r1 : (0 : Nat) = 0 := rfl
  have r2 := r1
  have r3 := r1
  have hmk : (5000 : Int).toNat = 5000 := rfl
  obtain ⟨rl, hrl⟩ : ∃ l, l = (c.row.take 5000).length := ⟨_, rfl⟩
  rw [cmdX_of c]
  refine acalls_of_awp Tryz.func14 rfl Tryz.ntmps14 (congrArg Array.toList Tryz.results14) (by simp) ?_
  simp only [go_sem]
  refine awp_reg zs [1, 2] fun K hK => ?_
  try simp only [go_sem, seval, cmdX, numsAV]
  repeat (first | (refine And.intro ?_ ?_; · first | exact ⟨by omega, .inr trivial, by omega, by omega⟩ | exact ⟨rfl, by simp [AV.sz, AV.szs, AV.memOK]⟩ | exact ⟨by simp; try omega, .inr trivial, by omega, by omega⟩) | refine peel ?_)
  refine hK _ _ _ ?_; clear hK K
  refine awp_reg zs [1, 2] fun K hK => ?_
  try simp only [go_sem, seval]
  repeat (first | (refine And.intro ?_ ?_; · first | exact ⟨by omega, .inr trivial, by omega, by omega⟩ | exact ⟨rfl, by simp [AV.sz, AV.szs, AV.memOK]⟩ | exact ⟨by simp; try omega, .inr trivial, by omega, by omega⟩) | refine peel ?_)
  refine callK_use Tryz.func25 rfl rfl rfl ((o_law14_laid c.row 5000 (by decide) (by decide) _ _)) ?_
  try simp only [go_sem, seval, hmk]
  repeat (first | (refine And.intro ?_ ?_; · first | exact ⟨by omega, .inr trivial, by omega, by omega⟩ | exact ⟨rfl, by simp [AV.sz, AV.szs, AV.memOK]⟩ | exact ⟨by simp; try omega, .inr trivial, by omega, by omega⟩) | refine peel ?_)
  refine hK _ _ _ ?_; clear hK K
  refine awp_reg zs [1, 2, 3] fun K hK => ?_
  try simp only [go_sem, seval]
  repeat (first | (refine And.intro ?_ ?_; · first | exact ⟨by omega, .inr trivial, by omega, by omega⟩ | exact ⟨rfl, by simp [AV.sz, AV.szs, AV.memOK]⟩ | exact ⟨by simp; try omega, .inr trivial, by omega, by omega⟩) | refine peel ?_)
  refine hK _ _ _ ?_; clear hK K
  refine awp_seq_k fun K1 hK1 => ?_
  refine awp_reg zs [1, 2, 3, 4] fun K hK => ?_
  try simp only [go_sem, seval]
  repeat (first | (refine And.intro ?_ ?_; · first | exact ⟨by omega, .inr trivial, by omega, by omega⟩ | exact ⟨rfl, by simp [AV.sz, AV.szs, AV.memOK]⟩ | exact ⟨by simp; try omega, .inr trivial, by omega, by omega⟩) | refine peel ?_)
  refine hK _ _ _ ?_; clear hK K
  refine awp_block ?_
  refine awp_adopt_tmp 3 4 rfl ?_
  refine awp_sel [1, 2, 3, 4] ?_
  simp only [go_sem, seval]
  refine awp_loop (fun T' H' n' => ∃ (i ver : Nat) (els : List AV) (ks1 ks2 : List Nat), i ≤ c.conds.length ∧ i ≤ 20 ∧ els.length = i ∧ T' = tl [(1, .loc n 0 0 0 []), (2, .loc (n + 1) 0 0 0 []), (3, .osl (n + 3) ver 0 i), (4, .int .i64 i)] ∧ H' n = some (.arr 0 17 [cmdX c c.q.whr (.osl (n + 2) 72 0 rl) (.sl 4 (c.conds.map condAV)) (.sl 6 (c.ops.map opAV)) (bys c.q.frm) (bys c.q.to) (numsAV c.q.fams) (bys c.q.pre) (bys c.q.token)]) ∧ H' (n + 3) = some (.arr ver 4 els) ∧ H' (n + 1) = some (.arr 0 17 [cmdZ]) ∧ Pile (n + 2) [.osl (n + 2) 72 0 rl] [bys (c.row.take 5000)] ks1 H' (n + 3) ∧ Pile (n + 4) els (((c.conds.take i).map condT).map condAV) ks2 H' n' ∧ (∀ k, k < n → H' k = H k) ∧ n + 4 ≤ n') (fun T' _ _ => c.conds.length - iv (T' 4)) ?_ ?_
  ·skip
   subst hrl
   exact ⟨0, 0, [], [n + 2], [], by omega, by omega, rfl, rfl, by simp [Heap.put, cmdX, bys, numsAV]; omega, Heap.put_same _ _ _, by simp [Heap.put]; rfl, ⟨.one (own_laid (x := marks) (ver := 72) (by simp [Heap.put])), by simp, fun k hk => by simp at hk; omega⟩, Pile.nil _ _ _, fun k hk => by simp only [Heap.put_get]; (repeat rw [if_neg (by omega)]), by omega⟩
  intro T1 H1 n1
  rintro ⟨i, ver, els, ks1, ks2, hi, hi2, hel, rfl, r1, r2, hres, hp1, hp2, hlow, hnn⟩
  refine awp_seq_k fun K2 hK2 => ?_
  refine awp_reg zs [1, 2, 3, 4, 23] fun K hK => ?_
  try simp only [go_sem, seval, r1, bys, List.length_map, cmdX, numsAV]
  repeat (first | (refine And.intro ?_ ?_; · first | exact ⟨by omega, .inr trivial, by omega, by omega⟩ | exact ⟨rfl, by simp [AV.sz, AV.szs, AV.memOK]⟩ | exact ⟨by simp; try omega, .inr trivial, by omega, by omega⟩) | refine peel ?_)
  refine hK _ _ _ ?_; clear hK K
  refine awp_cnd (fun hb => ?_) (fun hb => ?_)
  ·skip
   have hlt : i < c.conds.length ∧ i < 20 := by simp at hb; omega
   have hn1 : nth (c.conds.map condAV) i = condAV (c.conds.getD i default) := nth_map condAV c.conds i hlt.1
   have htk := take_snoc c.conds hlt.1
   generalize c.conds.getD i default = x at *
   have hE : els.take i = els := List.take_of_length_le (by omega)
   have e1 : (n + 3 = n1) = False := by simp; omega
   have e2 : (n = n1) = False := by simp; omega
   have e3 : (n + 3 = n1 + 1) = False := by simp; omega
   have e4 : (n + 3 = n1 + 2) = False := by simp; omega
   have e5 : (n + 3 = n1 + 1 + 1) = False := by simp; omega
   refine awp_skip ?_
   try simp only [go_sem, seval, bys, cmdX, numsAV]
   refine hK2 _ _ _ ?_
   first | clear hK2 K2 | skip
   refine awp_seq_k fun K3 hK3 => ?_
   refine awp_block ?_
   refine awp_reg zs [1, 2, 3, 4, 5] fun K hK => ?_
   try simp only [go_sem, seval, r1, bys, List.length_map, cmdX, numsAV, Int.toNat_natCast, hn1, condAV]
   repeat (first | (refine And.intro ?_ ?_; · first | exact ⟨by omega, .inr trivial, by omega, by omega⟩ | exact ⟨rfl, by simp [AV.sz, AV.szs, AV.memOK]⟩ | exact ⟨by simp; try omega, .inr trivial, by omega, by omega⟩) | refine peel ?_)
   refine hK _ _ _ ?_; clear hK K
   refine awp_reg zs [1, 2, 3, 4, 5] fun K hK => ?_
   try simp only [go_sem, seval, bys, cmdX, numsAV]
   repeat (first | (refine And.intro ?_ ?_; · first | exact ⟨by omega, .inr trivial, by omega, by omega⟩ | exact ⟨rfl, by simp [AV.sz, AV.szs, AV.memOK]⟩ | exact ⟨by simp; try omega, .inr trivial, by omega, by omega⟩) | refine peel ?_)
   refine callK_use Tryz.func25 rfl rfl rfl ((o_law14_laid x.qual 5000 (by decide) (by decide) _ _)) ?_
   try simp only [go_sem, seval, hmk]
   repeat (first | (refine And.intro ?_ ?_; · first | exact ⟨by omega, .inr trivial, by omega, by omega⟩ | exact ⟨rfl, by simp [AV.sz, AV.szs, AV.memOK]⟩ | exact ⟨by simp; try omega, .inr trivial, by omega, by omega⟩) | refine peel ?_)
   refine hK _ _ _ ?_; clear hK K
   refine awp_reg zs [1, 2, 3, 4, 5] fun K hK => ?_
   try simp only [go_sem, seval, bys, cmdX, numsAV]
   repeat (first | (refine And.intro ?_ ?_; · first | exact ⟨by omega, .inr trivial, by omega, by omega⟩ | exact ⟨rfl, by simp [AV.sz, AV.szs, AV.memOK]⟩ | exact ⟨by simp; try omega, .inr trivial, by omega, by omega⟩) | refine peel ?_)
   refine callK_use Tryz.func25 rfl rfl rfl ((o_law14_laid x.value 5000 (by decide) (by decide) _ _)) ?_
   try simp only [go_sem, seval, hmk]
   repeat (first | (refine And.intro ?_ ?_; · first | exact ⟨by omega, .inr trivial, by omega, by omega⟩ | exact ⟨rfl, by simp [AV.sz, AV.szs, AV.memOK]⟩ | exact ⟨by simp; try omega, .inr trivial, by omega, by omega⟩) | refine peel ?_)
   refine hK _ _ _ ?_; clear hK K
   refine awp_reg1 zs [1, 2, 3, 4] fun K hK => ?_
   try simp only [go_sem, seval, r2, bys, cmdX, numsAV, e1, e3, e4, hE]
   repeat (first | (refine And.intro ?_ ?_; · first | exact ⟨by omega, .inr trivial, by omega, by omega⟩ | exact ⟨rfl, by simp [AV.sz, AV.szs, AV.memOK]⟩ | exact ⟨by simp; try omega, .inr trivial, by omega, by omega⟩) | refine peel ?_)
   refine hK _ _ _ ?_; clear hK K
   try simp only [go_sem, seval, bys, cmdX, numsAV]
   refine hK3 _ _ _ ?_
   first | clear hK3 K3 | skip
   refine awp_reg1 zs [1, 2, 3, 4] fun K hK => ?_
   try simp only [go_sem, seval, bys, cmdX, numsAV]
   repeat (first | (refine And.intro ?_ ?_; · first | exact ⟨by omega, .inr trivial, by omega, by omega⟩ | exact ⟨rfl, by simp [AV.sz, AV.szs, AV.memOK]⟩ | exact ⟨by simp; try omega, .inr trivial, by omega, by omega⟩) | refine peel ?_)
   refine hK _ _ _ ?_; clear hK K
   try simp only [go_sem, seval, r1, bys, cmdX, numsAV]
   refine ⟨⟨i + 1, ver + 1, _, ks1, ks2 ++ [n1 + 1, n1 + 2], by omega, by omega, ?_, by rw [w1 (by omega)], ?_, rfl, ?_, ?_, ?_, fun k hk => ?_, by omega⟩, by rw [w1 (by omega)]; simp; omega⟩
   · simp [hel]
   · (repeat rw [if_neg (by omega)])
   · (repeat rw [if_neg (by omega)]); exact hres
   · exact hp1.on (fun k h1 h2 => by simp only [Heap.put_get]; repeat rw [if_neg (by omega)]) (by omega)
   · rw [htk, List.map_append, List.map_append]
     exact hp2.add (fun k h1 h2 => by simp only [Heap.put_get]; repeat rw [if_neg (by omega)]) (own_cond (y1 := marks) (y2 := marks) (by simp only [Heap.put_get]; (repeat rw [if_neg (by omega)]); simp) (by simp only [Heap.put_get]; (repeat rw [if_neg (by omega)]); simp)) (by simp) (fun k hk => by simp at hk; omega) (by omega) (by omega)
   · (repeat rw [if_neg (by omega)])
     exact hlow k hk
  ·skip
   have hw4 : IntKind.i64.wrap (((i + 4 : Nat) : Int) - 4) = i := by rw [w64 (by omega) (by omega)]; omega
   have hci : c.conds.take i = c.conds.take 20 := by
     rcases Nat.lt_or_ge i c.conds.length with h | h
     · have : i = 20 := by simp [h] at hb; omega
       rw [this]
     · rw [List.take_of_length_le h, List.take_of_length_le (by omega)]
   rw [hci] at hp2
   have hE : els.take i = els := List.take_of_length_le (by omega)
   refine awp_exit ?_
   try simp only [go_sem, seval, bys, cmdX, numsAV]
   refine hK1 _ _ _ ?_
   first | clear hK1 K1 | skip
   refine awp_reg zs [1, 2, 3] fun K hK => ?_
   try simp only [go_sem, seval, r2, hE]
   repeat (first | (refine And.intro ?_ ?_; · first | exact ⟨by omega, .inr trivial, by omega, by omega⟩ | exact ⟨rfl, by simp [AV.sz, AV.szs, AV.memOK]⟩ | exact ⟨by simp; try omega, .inr trivial, by omega, by omega⟩) | refine peel ?_)
   refine hK _ _ _ ?_; clear hK K
   have e1 : (n = n + 3) = False := by simp
   refine awp_reg zs [1, 2] fun K hK => ?_
   try simp only [go_sem, seval, r1, bys, cmdX, numsAV, hw4, Int.toNat_natCast, Option.getD_some, Option.getD_none, List.length_cons, List.length_nil]
   repeat (first | (refine And.intro ?_ ?_; · first | exact ⟨by simp; omega, by simp; omega, by simp; omega, fun m h => h.elim⟩ | exact ⟨by omega, by omega, fun m h => h.elim⟩ | exact ⟨by omega, .inr trivial, by omega, by omega⟩ | exact ⟨rfl, by simp [AV.sz, AV.szs, AV.memOK]⟩ | exact ⟨by simp; try omega, .inr trivial, by omega, by omega⟩) | refine peel ?_)
   refine hK _ _ _ ?_; clear hK K
   refine awp_gen (fun H' n' => ∃ vc ic ks, H' n = some (.arr 0 17 [cmdX c c.q.whr (.osl (n + 2) 72 0 rl) (.osl (n + 3) vc 0 ic) (.sl 6 (c.ops.map opAV)) (bys c.q.frm) (bys c.q.to) (numsAV c.q.fams) (bys c.q.pre) (bys c.q.token)]) ∧ H' (n + 1) = some (.arr 0 17 [cmdZ]) ∧ Pile (n + 2) [.osl (n + 2) 72 0 rl, .osl (n + 3) vc 0 ic] [bys (c.row.take 5000), .sl 4 (((c.conds.take 20).map condT).map condAV)] ks H' n' ∧ (∀ k, k < n → H' k = H k) ∧ n + 4 ≤ n') ⟨ver + 1, i, _, Heap.put_same _ _ _, by simp only [Heap.put_get]; (repeat rw [if_neg (by omega)]); exact hres, by
     exact hp1.addList hp2 (by rw [Heap.put_ne _ _ (by omega)]; exact Heap.put_same _ _ _) hel.symm (fun k h1 h2 h3 => by simp only [Heap.put_get]; repeat rw [if_neg (by omega)]) (by omega) (by omega), fun k hk => by simp only [Heap.put_get]; (repeat rw [if_neg (by omega)]); exact hlow k hk, by omega⟩ fun H2 n2 ⟨vc, ic, ks, q1, hres, hp, qlow, qnn⟩ => ?_
   clear hlow hnn r1 r2 hK1 hK2 hb hw4 hi hi2 hp1 hp2 hE hci hel
   refine awp_reg zs [1, 2, 6] fun K hK => ?_
   try simp only [go_sem, seval]
   repeat (first | (refine And.intro ?_ ?_; · first | exact ⟨by omega, .inr trivial, by omega, by omega⟩ | exact ⟨rfl, by simp [AV.sz, AV.szs, AV.memOK]⟩ | exact ⟨by simp; try omega, .inr trivial, by omega, by omega⟩) | refine peel ?_)
   refine hK _ _ _ ?_; clear hK K
   refine awp_seq_k fun K4 hK4 => ?_
   refine awp_reg zs [1, 2, 6, 7] fun K hK => ?_
   try simp only [go_sem, seval]
   repeat (first | (refine And.intro ?_ ?_; · first | exact ⟨by omega, .inr trivial, by omega, by omega⟩ | exact ⟨rfl, by simp [AV.sz, AV.szs, AV.memOK]⟩ | exact ⟨by simp; try omega, .inr trivial, by omega, by omega⟩) | refine peel ?_)
   refine hK _ _ _ ?_; clear hK K
   refine awp_block ?_
   refine awp_adopt_tmp 6 6 rfl ?_
   refine awp_sel [1, 2, 6, 7] ?_
   simp only [go_sem, seval]
   refine awp_loop (fun T' H' n' => ∃ (j v6 : Nat) (els : List AV) (ks2 : List Nat), j ≤ c.ops.length ∧ j ≤ 20 ∧ els.length = j ∧ T' = tl [(1, .loc n 0 0 0 []), (2, .loc (n + 1) 0 0 0 []), (6, .osl n2 v6 0 j), (7, .int .i64 j)] ∧ H' n = some (.arr 0 17 [cmdX c c.q.whr (.osl (n + 2) 72 0 rl) (.osl (n + 3) vc 0 ic) (.sl 6 (c.ops.map opAV)) (bys c.q.frm) (bys c.q.to) (numsAV c.q.fams) (bys c.q.pre) (bys c.q.token)]) ∧ H' n2 = some (.arr v6 6 els) ∧ H' (n + 1) = some (.arr 0 17 [cmdZ]) ∧ Pile (n + 2) [.osl (n + 2) 72 0 rl, .osl (n + 3) vc 0 ic] [bys (c.row.take 5000), .sl 4 (((c.conds.take 20).map condT).map condAV)] ks H' n2 ∧ Pile (n2 + 1) els (((c.ops.take j).map opT).map opAV) ks2 H' n' ∧ (∀ k, k < n → H' k = H k) ∧ n2 + 1 ≤ n') (fun T' _ _ => c.ops.length - iv (T' 7)) ?_ ?_
   ·skip
    exact ⟨0, 0, [], [], by omega, by omega, rfl, rfl, by rw [Heap.put_ne _ _ (by omega)]; exact q1, Heap.put_same _ _ _, by rw [Heap.put_ne _ _ (by omega)]; exact hres, hp.on (fun k h1 h2 => Heap.put_ne _ _ (by omega)) (Nat.le_refl _), Pile.nil _ _ _, fun k hk => by rw [Heap.put_ne _ _ (by omega)]; exact qlow k hk, by omega⟩
   intro T1 H1 n1
   rintro ⟨j, v6, els, ks2, hj, hj2, hel, rfl, r1, r2, hres, hp1, hp2, qlow2, qnn2⟩
   refine awp_seq_k fun K5 hK5 => ?_
   refine awp_reg zs [1, 2, 6, 7, 64] fun K hK => ?_
   try simp only [go_sem, seval, r1, bys, List.length_map, cmdX, numsAV]
   repeat (first | (refine And.intro ?_ ?_; · first | exact ⟨by omega, .inr trivial, by omega, by omega⟩ | exact ⟨rfl, by simp [AV.sz, AV.szs, AV.memOK]⟩ | exact ⟨by simp; try omega, .inr trivial, by omega, by omega⟩) | refine peel ?_)
   refine hK _ _ _ ?_; clear hK K
   refine awp_cnd (fun hb => ?_) (fun hb => ?_)
   ·skip
    have hlt : j < c.ops.length ∧ j < 20 := by simp at hb; omega
    have hn1 : nth (c.ops.map opAV) j = opAV (c.ops.getD j default) := nth_map opAV c.ops j hlt.1
    have htk := take_snoc c.ops hlt.1
    generalize c.ops.getD j default = x at *
    have hE : els.take j = els := List.take_of_length_le (by omega)
    have e1 : (n2 = n1) = False := by simp; omega
    have e2 : (n = n1) = False := by simp; omega
    have e3 : (n2 = n1 + 1) = False := by simp; omega
    have e4 : (n2 = n1 + 2) = False := by simp; omega
    have e5 : (n2 = n1 + 1 + 1) = False := by simp; omega
    refine awp_skip ?_
    try simp only [go_sem, seval, bys, cmdX, numsAV]
    refine hK5 _ _ _ ?_
    first | clear hK5 K5 | skip
    refine awp_seq_k fun K6 hK6 => ?_
    refine awp_block ?_
    refine awp_reg zs [1, 2, 6, 7, 8] fun K hK => ?_
    try simp only [go_sem, seval, r1, bys, List.length_map, cmdX, numsAV, Int.toNat_natCast, hn1, opAV]
    repeat (first | (refine And.intro ?_ ?_; · first | exact ⟨by omega, .inr trivial, by omega, by omega⟩ | exact ⟨rfl, by simp [AV.sz, AV.szs, AV.memOK]⟩ | exact ⟨by simp; try omega, .inr trivial, by omega, by omega⟩) | refine peel ?_)
    refine hK _ _ _ ?_; clear hK K
    refine awp_reg zs [1, 2, 6, 7, 8] fun K hK => ?_
    try simp only [go_sem, seval, bys, cmdX, numsAV]
    repeat (first | (refine And.intro ?_ ?_; · first | exact ⟨by omega, .inr trivial, by omega, by omega⟩ | exact ⟨rfl, by simp [AV.sz, AV.szs, AV.memOK]⟩ | exact ⟨by simp; try omega, .inr trivial, by omega, by omega⟩) | refine peel ?_)
    refine callK_use Tryz.func25 rfl rfl rfl ((o_law14_laid x.qual 5000 (by decide) (by decide) _ _)) ?_
    try simp only [go_sem, seval, hmk]
    repeat (first | (refine And.intro ?_ ?_; · first | exact ⟨by omega, .inr trivial, by omega, by omega⟩ | exact ⟨rfl, by simp [AV.sz, AV.szs, AV.memOK]⟩ | exact ⟨by simp; try omega, .inr trivial, by omega, by omega⟩) | refine peel ?_)
    refine hK _ _ _ ?_; clear hK K
    refine awp_reg zs [1, 2, 6, 7, 8] fun K hK => ?_
    try simp only [go_sem, seval, bys, cmdX, numsAV]
    repeat (first | (refine And.intro ?_ ?_; · first | exact ⟨by omega, .inr trivial, by omega, by omega⟩ | exact ⟨rfl, by simp [AV.sz, AV.szs, AV.memOK]⟩ | exact ⟨by simp; try omega, .inr trivial, by omega, by omega⟩) | refine peel ?_)
    refine callK_use Tryz.func25 rfl rfl rfl ((o_law14_laid x.value 5000 (by decide) (by decide) _ _)) ?_
    try simp only [go_sem, seval, hmk]
    repeat (first | (refine And.intro ?_ ?_; · first | exact ⟨by omega, .inr trivial, by omega, by omega⟩ | exact ⟨rfl, by simp [AV.sz, AV.szs, AV.memOK]⟩ | exact ⟨by simp; try omega, .inr trivial, by omega, by omega⟩) | refine peel ?_)
    refine hK _ _ _ ?_; clear hK K
    refine awp_reg1 zs [1, 2, 6, 7] fun K hK => ?_
    try simp only [go_sem, seval, r2, bys, cmdX, numsAV, e1, e3, e4, hE]
    repeat (first | (refine And.intro ?_ ?_; · first | exact ⟨by omega, .inr trivial, by omega, by omega⟩ | exact ⟨rfl, by simp [AV.sz, AV.szs, AV.memOK]⟩ | exact ⟨by simp; try omega, .inr trivial, by omega, by omega⟩) | refine peel ?_)
    refine hK _ _ _ ?_; clear hK K
    try simp only [go_sem, seval, bys, cmdX, numsAV]
    refine hK6 _ _ _ ?_
    first | clear hK6 K6 | skip
    refine awp_reg1 zs [1, 2, 6, 7] fun K hK => ?_
    try simp only [go_sem, seval, bys, cmdX, numsAV]
    repeat (first | (refine And.intro ?_ ?_; · first | exact ⟨by omega, .inr trivial, by omega, by omega⟩ | exact ⟨rfl, by simp [AV.sz, AV.szs, AV.memOK]⟩ | exact ⟨by simp; try omega, .inr trivial, by omega, by omega⟩) | refine peel ?_)
    refine hK _ _ _ ?_; clear hK K
    try simp only [go_sem, seval, r1, bys, cmdX, numsAV]
    refine ⟨⟨j + 1, v6 + 1, _, ks2 ++ [n1 + 1, n1 + 2], by omega, by omega, ?_, by rw [w1 (by omega)], ?_, rfl, ?_, ?_, ?_, fun k hk => ?_, by omega⟩, by rw [w1 (by omega)]; simp; omega⟩
    · simp [hel]
    · (repeat rw [if_neg (by omega)])
    · (repeat rw [if_neg (by omega)]); exact hres
    · exact hp1.on (fun k h1 h2 => by simp only [Heap.put_get]; repeat rw [if_neg (by omega)]) (by omega)
    · rw [htk, List.map_append, List.map_append]
      exact hp2.add (fun k h1 h2 => by simp only [Heap.put_get]; repeat rw [if_neg (by omega)]) (own_op (y1 := marks) (y2 := marks) (by simp only [Heap.put_get]; (repeat rw [if_neg (by omega)]); simp) (by simp only [Heap.put_get]; (repeat rw [if_neg (by omega)]); simp)) (by simp) (fun k hk => by simp at hk; omega) (by omega) (by omega)
    · (repeat rw [if_neg (by omega)])
      exact qlow2 k hk
   ·skip
    have hw4 : IntKind.i64.wrap (((j + 4 : Nat) : Int) - 4) = j := by rw [w64 (by omega) (by omega)]; omega
    have hci : c.ops.take j = c.ops.take 20 := by
      rcases Nat.lt_or_ge j c.ops.length with h | h
      · have : j = 20 := by simp [h] at hb; omega
        rw [this]
      · rw [List.take_of_length_le h, List.take_of_length_le (by omega)]
    rw [hci] at hp2
    have hE : els.take j = els := List.take_of_length_le (by omega)
    refine awp_exit ?_
    try simp only [go_sem, seval, bys, cmdX, numsAV]
    refine hK4 _ _ _ ?_
    first | clear hK4 K4 | skip
    refine awp_reg zs [1, 2, 6] fun K hK => ?_
    try simp only [go_sem, seval, r2, hE]
    repeat (first | (refine And.intro ?_ ?_; · first | exact ⟨by omega, .inr trivial, by omega, by omega⟩ | exact ⟨rfl, by simp [AV.sz, AV.szs, AV.memOK]⟩ | exact ⟨by simp; try omega, .inr trivial, by omega, by omega⟩) | refine peel ?_)
    refine hK _ _ _ ?_; clear hK K
    have e1 : (n = n2) = False := by simp; omega
    refine awp_reg zs [1, 2] fun K hK => ?_
    try simp only [go_sem, seval, r1, bys, cmdX, numsAV, e1, hw4, Int.toNat_natCast, Option.getD_some, Option.getD_none, List.length_cons, List.length_nil]
    repeat (first | (refine And.intro ?_ ?_; · first | exact ⟨by simp; omega, by simp; omega, by simp; omega, fun m h => h.elim⟩ | exact ⟨by omega, by omega, fun m h => h.elim⟩ | exact ⟨by omega, .inr trivial, by omega, by omega⟩ | exact ⟨rfl, by simp [AV.sz, AV.szs, AV.memOK]⟩ | exact ⟨by simp; try omega, .inr trivial, by omega, by omega⟩) | refine peel ?_)
    refine hK _ _ _ ?_; clear hK K
    refine awp_gen (fun H' n' => ∃ vo io ks, H' n = some (.arr 0 17 [cmdX c c.q.whr (.osl (n + 2) 72 0 rl) (.osl (n + 3) vc 0 ic) (.osl n2 vo 0 io) (bys c.q.frm) (bys c.q.to) (numsAV c.q.fams) (bys c.q.pre) (bys c.q.token)]) ∧ H' (n + 1) = some (.arr 0 17 [cmdZ]) ∧ Pile (n + 2) [.osl (n + 2) 72 0 rl, .osl (n + 3) vc 0 ic, .osl n2 vo 0 io] [bys (c.row.take 5000), .sl 4 (((c.conds.take 20).map condT).map condAV), .sl 6 (((c.ops.take 20).map opT).map opAV)] ks H' n' ∧ (∀ k, k < n → H' k = H k) ∧ n2 + 1 ≤ n') ⟨v6 + 1, j, _, Heap.put_same _ _ _, by simp only [Heap.put_get]; (repeat rw [if_neg (by omega)]); exact hres, by
      exact hp1.addList hp2 (by rw [Heap.put_ne _ _ (by omega)]; exact Heap.put_same _ _ _) hel.symm (fun k h1 h2 h3 => by simp only [Heap.put_get]; repeat rw [if_neg (by omega)]) (by omega) (by omega), fun k hk => by simp only [Heap.put_get]; (repeat rw [if_neg (by omega)]); exact qlow2 k hk, by omega⟩ fun H3 n3 ⟨vo, io, ks3, r1, hres, hp3, qlow3, qnn3⟩ => ?_
    clear qlow2 qnn2 r2 hb hw4 hj hj2 hp1 hp2 hE hci hel
    have e1 : (n = n3) = False := by simp; omega
    have e2 : (n = n3 + 1) = False := by simp; omega
    have e3 : (n = n3 + 2) = False := by simp; omega
    have e6 : (n = n3 + 1 + 1) = False := by simp; omega
    have e7 : (n = n3 + 1 + 1 + 1) = False := by simp; omega
    have e8 : (n = n3 + 3) = False := by simp; omega
    refine awp_reg zs [1, 2] fun K hK => ?_
    try simp only [go_sem, seval, r1, bys, cmdX, numsAV]
    repeat (first | (refine And.intro ?_ ?_; · first | exact ⟨by omega, .inr trivial, by omega, by omega⟩ | exact ⟨rfl, by simp [AV.sz, AV.szs, AV.memOK]⟩ | exact ⟨by simp; try omega, .inr trivial, by omega, by omega⟩) | refine peel ?_)
    refine callK_use Tryz.func25 rfl rfl rfl ((o_law14_laid c.q.frm 5000 (by decide) (by decide) _ _)) ?_
    try simp only [go_sem, seval, r1, bys, cmdX, numsAV, hmk, e1]
    repeat (first | (refine And.intro ?_ ?_; · first | exact ⟨by omega, .inr trivial, by omega, by omega⟩ | exact ⟨rfl, by simp [AV.sz, AV.szs, AV.memOK]⟩ | exact ⟨by simp; try omega, .inr trivial, by omega, by omega⟩) | refine peel ?_)
    refine hK _ _ _ ?_; clear hK K
    refine awp_reg zs [1, 2] fun K hK => ?_
    try simp only [go_sem, seval]
    repeat (first | (refine And.intro ?_ ?_; · first | exact ⟨by omega, .inr trivial, by omega, by omega⟩ | exact ⟨rfl, by simp [AV.sz, AV.szs, AV.memOK]⟩ | exact ⟨by simp; try omega, .inr trivial, by omega, by omega⟩) | refine peel ?_)
    refine callK_use Tryz.func25 rfl rfl rfl ((o_law14_laid c.q.to 5000 (by decide) (by decide) _ _)) ?_
    try simp only [go_sem, seval, hmk, e2]
    repeat (first | (refine And.intro ?_ ?_; · first | exact ⟨by omega, .inr trivial, by omega, by omega⟩ | exact ⟨rfl, by simp [AV.sz, AV.szs, AV.memOK]⟩ | exact ⟨by simp; try omega, .inr trivial, by omega, by omega⟩) | refine peel ?_)
    refine hK _ _ _ ?_; clear hK K
    refine awp_reg zs [1, 2] fun K hK => ?_
    try simp only [go_sem, seval]
    repeat (first | (refine And.intro ?_ ?_; · first | exact ⟨by omega, .inr trivial, by omega, by omega⟩ | exact ⟨rfl, by simp [AV.sz, AV.szs, AV.memOK]⟩ | exact ⟨by simp; try omega, .inr trivial, by omega, by omega⟩) | refine peel ?_)
    refine callK_use Tryz.func25 rfl rfl rfl ((o_law14_laid c.q.pre 5000 (by decide) (by decide) _ _)) ?_
    try simp only [go_sem, seval, hmk, e3]
    repeat (first | (refine And.intro ?_ ?_; · first | exact ⟨by omega, .inr trivial, by omega, by omega⟩ | exact ⟨rfl, by simp [AV.sz, AV.szs, AV.memOK]⟩ | exact ⟨by simp; try omega, .inr trivial, by omega, by omega⟩) | refine peel ?_)
    refine hK _ _ _ ?_; clear hK K
    refine awp_reg zs [1, 2] fun K hK => ?_
    try simp only [go_sem, seval]
    repeat (first | (refine And.intro ?_ ?_; · first | exact ⟨by omega, .inr trivial, by omega, by omega⟩ | exact ⟨rfl, by simp [AV.sz, AV.szs, AV.memOK]⟩ | exact ⟨by simp; try omega, .inr trivial, by omega, by omega⟩) | refine peel ?_)
    refine callK_use Tryz.func25 rfl rfl rfl ((o_law14_laid c.q.token 5000 (by decide) (by decide) _ _)) ?_
    try simp only [go_sem, seval, hmk, e7]
    repeat (first | (refine And.intro ?_ ?_; · first | exact ⟨by omega, .inr trivial, by omega, by omega⟩ | exact ⟨rfl, by simp [AV.sz, AV.szs, AV.memOK]⟩ | exact ⟨by simp; try omega, .inr trivial, by omega, by omega⟩) | refine peel ?_)
    refine hK _ _ _ ?_; clear hK K
    refine awp_gen (fun H' n' => ∃ k1 k2 k3 k4 l1 l2 l3 l4 ks, H' n = some (.arr 0 17 [cmdX c c.q.whr (.osl (n + 2) 72 0 rl) (.osl (n + 3) vc 0 ic) (.osl n2 vo 0 io) (.osl k1 72 0 l1) (.osl k2 72 0 l2) (numsAV c.q.fams) (.osl k3 72 0 l3) (.osl k4 72 0 l4)]) ∧ H' (n + 1) = some (.arr 0 17 [cmdZ]) ∧ Pile (n + 2) [.osl (n + 2) 72 0 rl, .osl (n + 3) vc 0 ic, .osl n2 vo 0 io, .osl k1 72 0 l1, .osl k2 72 0 l2, .osl k3 72 0 l3, .osl k4 72 0 l4] [bys (c.row.take 5000), .sl 4 (((c.conds.take 20).map condT).map condAV), .sl 6 (((c.ops.take 20).map opT).map opAV), bys (c.q.frm.take 5000), bys (c.q.to.take 5000), bys (c.q.pre.take 5000), bys (c.q.token.take 5000)] ks H' n' ∧ (∀ k, k < n → H' k = H k) ∧ n2 + 1 ≤ n') ⟨_, _, _, _, _, _, _, _, _, Heap.put_same _ _ _, by simp only [Heap.put_get]; (repeat rw [if_neg (by omega)]); exact hres, by
      exact (((((hp3.on (fun k h1 h2 => by simp only [Heap.put_get]; repeat rw [if_neg (by omega)]) (Nat.le_refl _)).add1 (own_laid (x := marks) (by simp only [Heap.put_get]; (repeat rw [if_neg (by omega)]); simp)) (by omega)).add1 (own_laid (x := marks) (by simp only [Heap.put_get]; (repeat rw [if_neg (by omega)]); simp)) (by omega)).add1 (own_laid (x := marks) (by simp only [Heap.put_get]; (repeat rw [if_neg (by omega)]); simp)) (by omega)).add1 (own_laid (x := marks) (by simp only [Heap.put_get]; (repeat rw [if_neg (by omega)]); simp)) (by omega)), fun k hk => by simp only [Heap.put_get]; (repeat rw [if_neg (by omega)]); exact qlow3 k hk, by omega⟩ fun H4 n4 ⟨k1, k2, k3, k4, l1, l2, l3, l4, ks4, r1, hres, hp4, qlow4, qnn4⟩ => ?_
    refine awp_seq_jl [1, 2] (fun T' H' n' => T' = tl [(1, .loc n 0 0 0 []), (2, .loc (n + 1) 0 0 0 [])] ∧ H' n = some (.arr 0 17 [cmdX c (c.q.whr.take 5000) (.osl (n + 2) 72 0 rl) (.osl (n + 3) vc 0 ic) (.osl n2 vo 0 io) (.osl k1 72 0 l1) (.osl k2 72 0 l2) (numsAV c.q.fams) (.osl k3 72 0 l3) (.osl k4 72 0 l4)]) ∧ H' (n + 1) = some (.arr 0 17 [cmdZ]) ∧ Pile (n + 2) [.osl (n + 2) 72 0 rl, .osl (n + 3) vc 0 ic, .osl n2 vo 0 io, .osl k1 72 0 l1, .osl k2 72 0 l2, .osl k3 72 0 l3, .osl k4 72 0 l4] [bys (c.row.take 5000), .sl 4 (((c.conds.take 20).map condT).map condAV), .sl 6 (((c.ops.take 20).map opT).map opAV), bys (c.q.frm.take 5000), bys (c.q.to.take 5000), bys (c.q.pre.take 5000), bys (c.q.token.take 5000)] ks4 H' n' ∧ (∀ k, k < n → H' k = H k) ∧ n2 + 1 ≤ n') ?_ ?_
    ·skip
     refine awp_reg zs [1, 2, 125] fun K hK => ?_
     try simp only [go_sem, seval, r1, bys, cmdX, numsAV]
     repeat (first | (refine And.intro ?_ ?_; · first | exact ⟨by omega, .inr trivial, by omega, by omega⟩ | exact ⟨rfl, by simp [AV.sz, AV.szs, AV.memOK]⟩ | exact ⟨by simp; try omega, .inr trivial, by omega, by omega⟩) | refine peel ?_)
     refine hK _ _ _ ?_; clear hK K
     refine awp_cnd (fun hb => ?_) (fun hb => ?_)
     ·skip
      have hgt : 5000 < c.q.whr.length := by have := of_decide_eq_true hb; omega
      refine awp_reg1 zs [1, 2] fun K hK => ?_
      try simp only [go_sem, seval, r1, bys, cmdX, numsAV, hmk, Option.getD_some, Option.getD_none]
      repeat (first | (refine And.intro ?_ ?_; · first | exact ⟨rfl, by omega, by omega, by omega, rfl⟩ | exact ⟨by omega, .inr trivial, by omega, by omega⟩ | exact ⟨rfl, by simp [AV.sz, AV.szs, AV.memOK]⟩ | exact ⟨by simp; try omega, .inr trivial, by omega, by omega⟩) | refine peel ?_)
      refine hK _ _ _ ?_; clear hK K
      try simp only [go_sem, seval, bys, cmdX, numsAV]
      first | (rw [List.take_of_length_le (l := c.q.whr) (i := 5000) (by have := of_decide_eq_false hb; omega)]; exact ⟨rfl, hres, hp4, qlow4, qnn4⟩) | exact ⟨hres, hp4.on (fun k h1 h2 => Heap.put_ne _ _ (by omega)) (Nat.le_refl _), fun k hk => by rw [if_neg (by omega)]; exact qlow4 k hk, qnn4⟩
     ·skip
      refine awp_skip ?_
      try simp only [go_sem, seval, r1, bys, cmdX, numsAV]
      first | (rw [List.take_of_length_le (l := c.q.whr) (i := 5000) (by have := of_decide_eq_false hb; omega)]; exact ⟨rfl, hres, hp4, qlow4, qnn4⟩) | exact ⟨hres, hp4.on (fun k h1 h2 => Heap.put_ne _ _ (by omega)) (Nat.le_refl _), fun k hk => by rw [if_neg (by omega)]; exact qlow4 k hk, qnn4⟩
    rintro T5 H5 n5 ⟨rfl, hc5, hres, hp5, qlow5, qnn5⟩
    refine awp_reg zs [1, 2, 9] fun K hK => ?_
    try simp only [go_sem, seval]
    repeat (first | (refine And.intro ?_ ?_; · first | exact ⟨by omega, .inr trivial, by omega, by omega⟩ | exact ⟨rfl, by simp [AV.sz, AV.szs, AV.memOK]⟩ | exact ⟨by simp; try omega, .inr trivial, by omega, by omega⟩) | refine peel ?_)
    refine hK _ _ _ ?_; clear hK K
    refine awp_seq_k fun K7 hK7 => ?_
    refine awp_reg zs [1, 2, 9, 10] fun K hK => ?_
    try simp only [go_sem, seval]
    repeat (first | (refine And.intro ?_ ?_; · first | exact ⟨by omega, .inr trivial, by omega, by omega⟩ | exact ⟨rfl, by simp [AV.sz, AV.szs, AV.memOK]⟩ | exact ⟨by simp; try omega, .inr trivial, by omega, by omega⟩) | refine peel ?_)
    refine hK _ _ _ ?_; clear hK K
    refine awp_block ?_
    refine awp_adopt_tmp 9 1 rfl ?_
    refine awp_sel [1, 2, 9, 10] ?_
    simp only [go_sem, seval]
    refine awp_loop (fun T' H' n' => ∃ (j v6 : Nat), j ≤ c.q.fams.length ∧ j ≤ 20 ∧ T' = tl [(1, .loc n 0 0 0 []), (2, .loc (n + 1) 0 0 0 []), (9, .osl n5 v6 0 j), (10, .int .i64 j)] ∧ H' n = some (.arr 0 17 [cmdX c (c.q.whr.take 5000) (.osl (n + 2) 72 0 rl) (.osl (n + 3) vc 0 ic) (.osl n2 vo 0 io) (.osl k1 72 0 l1) (.osl k2 72 0 l2) (numsAV c.q.fams) (.osl k3 72 0 l3) (.osl k4 72 0 l4)]) ∧ H' n5 = some (.arr v6 1 ((c.q.fams.take j).map fun x => .int .i64 x)) ∧ H' (n + 1) = some (.arr 0 17 [cmdZ]) ∧ Pile (n + 2) [.osl (n + 2) 72 0 rl, .osl (n + 3) vc 0 ic, .osl n2 vo 0 io, .osl k1 72 0 l1, .osl k2 72 0 l2, .osl k3 72 0 l3, .osl k4 72 0 l4] [bys (c.row.take 5000), .sl 4 (((c.conds.take 20).map condT).map condAV), .sl 6 (((c.ops.take 20).map opT).map opAV), bys (c.q.frm.take 5000), bys (c.q.to.take 5000), bys (c.q.pre.take 5000), bys (c.q.token.take 5000)] ks4 H' n5 ∧ (∀ k, k < n → H' k = H k) ∧ n5 + 1 ≤ n') (fun T' _ _ => c.q.fams.length - iv (T' 10)) ?_ ?_
    ·skip
     exact ⟨0, 0, by omega, by omega, rfl, by rw [Heap.put_ne _ _ (by omega)]; exact hc5, by rw [Heap.put_same]; rfl, by rw [Heap.put_ne _ _ (by omega)]; exact hres, hp5.on (fun k h1 h2 => Heap.put_ne _ _ (by omega)) (Nat.le_refl _), fun k hk => by rw [Heap.put_ne _ _ (by omega)]; exact qlow5 k hk, by omega⟩
    intro T1 H1 n1
    rintro ⟨j, v6, hj, hj2, rfl, r1, r2, hres, hp6, qlow6, qnn6⟩
    refine awp_seq_k fun K8 hK8 => ?_
    refine awp_reg zs [1, 2, 9, 10, 141] fun K hK => ?_
    try simp only [go_sem, seval, r1, bys, List.length_map, cmdX, numsAV]
    repeat (first | (refine And.intro ?_ ?_; · first | exact ⟨by omega, .inr trivial, by omega, by omega⟩ | exact ⟨rfl, by simp [AV.sz, AV.szs, AV.memOK]⟩ | exact ⟨by simp; try omega, .inr trivial, by omega, by omega⟩) | refine peel ?_)
    refine hK _ _ _ ?_; clear hK K
    refine awp_cnd (fun hb => ?_) (fun hb => ?_)
    ·skip
     have hlt : j < c.q.fams.length ∧ j < 20 := by simp at hb; omega
     have hn1 : nth (c.q.fams.map fun x : Int => (.int .i64 x : AV)) j = .int .i64 (c.q.fams.getD j default) := nth_map (fun x : Int => (.int .i64 x : AV)) c.q.fams j hlt.1
     have htk := take_snoc c.q.fams hlt.1
     generalize c.q.fams.getD j default = x at *
     have e3 : (n = n5) = False := by simp; omega
     refine awp_skip ?_
     try simp only [go_sem, seval, bys, cmdX, numsAV]
     refine hK8 _ _ _ ?_
     first | clear hK8 K8 | skip
     refine awp_seq_k fun K9 hK9 => ?_
     refine awp_block ?_
     refine awp_reg1 zs [1, 2, 9, 10] fun K hK => ?_
     try simp only [go_sem, seval, r1, r2, bys, List.length_map, cmdX, numsAV, Int.toNat_natCast, hn1]
     repeat (first | (refine And.intro ?_ ?_; · first | exact ⟨by omega, .inr trivial, by omega, by omega⟩ | exact ⟨rfl, by simp [AV.sz, AV.szs, AV.memOK]⟩ | exact ⟨by simp; try omega, .inr trivial, by omega, by omega⟩) | refine peel ?_)
     refine hK _ _ _ ?_; clear hK K
     try simp only [go_sem, seval, bys, cmdX, numsAV]
     refine hK9 _ _ _ ?_
     first | clear hK9 K9 | skip
     refine awp_reg1 zs [1, 2, 9, 10] fun K hK => ?_
     try simp only [go_sem, seval, bys, cmdX, numsAV]
     repeat (first | (refine And.intro ?_ ?_; · first | exact ⟨by omega, .inr trivial, by omega, by omega⟩ | exact ⟨rfl, by simp [AV.sz, AV.szs, AV.memOK]⟩ | exact ⟨by simp; try omega, .inr trivial, by omega, by omega⟩) | refine peel ?_)
     refine hK _ _ _ ?_; clear hK K
     try simp only [go_sem, seval, r1, bys, cmdX, numsAV]
     refine ⟨⟨j + 1, v6 + 1, by omega, by omega, by rw [w1 (by omega)], ?_, ?_, ?_, ?_, fun k hk => ?_, by omega⟩, by rw [w1 (by omega)]; simp; omega⟩
     · simp [e3, cmdX, numsAV]
     · rw [htk, List.map_append, List.take_of_length_le (by simp; omega)]; rfl
     · (repeat rw [if_neg (by omega)]); exact hres
     · exact hp6.on (fun k h1 h2 => by simp only [Heap.put_get]; repeat rw [if_neg (by omega)]) (Nat.le_refl _)
     · (repeat rw [if_neg (by omega)])
       exact qlow6 k hk
    ·skip
     have hw5 : IntKind.i64.wrap (((j + 5 : Nat) : Int) - 5) = j := by rw [w64 (by omega) (by omega)]; omega
     have hci : c.q.fams.take j = c.q.fams.take 20 := by
       rcases Nat.lt_or_ge j c.q.fams.length with h | h
       · have : j = 20 := by simp [h] at hb; omega
         rw [this]
       · rw [List.take_of_length_le h, List.take_of_length_le (by omega)]
     have hEl : ((c.q.fams.take 20).map fun x : Int => (.int .i64 x : AV)).length = j := by rw [← hci]; simp; omega
     have hE : List.take j (List.map (fun x : Int => (.int .i64 x : AV)) (List.take j c.q.fams)) = (c.q.fams.take 20).map fun x : Int => (.int .i64 x : AV) := by rw [hci, List.take_of_length_le (by rw [hEl]; exact Nat.le_refl _)]
     refine awp_exit ?_
     try simp only [go_sem, seval, bys, cmdX, numsAV]
     refine hK7 _ _ _ ?_
     first | clear hK7 K7 | skip
     refine awp_reg zs [1, 2, 9] fun K hK => ?_
     try simp only [go_sem, seval, r2, List.length_map, hE]
     repeat (first | (refine And.intro ?_ ?_; · first | exact ⟨by omega, .inr trivial, by omega, by omega⟩ | exact ⟨rfl, by simp [AV.sz, AV.szs, AV.memOK]⟩ | exact ⟨by simp; try omega, .inr trivial, by omega, by omega⟩) | refine peel ?_)
     refine hK _ _ _ ?_; clear hK K
     have e3 : (n = n5) = False := by simp; omega
     refine awp_reg zs [1, 2] fun K hK => ?_
     try simp only [go_sem, seval, r1, cmdX, numsAV, e3, hw5, Int.toNat_natCast, Option.getD_some, Option.getD_none, List.length_cons, List.length_nil]
     repeat (first | (refine And.intro ?_ ?_; · first | exact ⟨by simp; omega, by simp; omega, by simp; omega, fun m h => h.elim⟩ | exact ⟨by omega, by omega, fun m h => h.elim⟩ | exact ⟨by omega, .inr trivial, by omega, by omega⟩ | exact ⟨rfl, by simp [AV.sz, AV.szs, AV.memOK]⟩ | exact ⟨by simp; try omega, .inr trivial, by omega, by omega⟩) | refine peel ?_)
     refine hK _ _ _ ?_; clear hK K
     have e4 : (n + 1 = n5) = False := by simp; omega
     refine awp_reg zs [2] fun K hK => ?_
     try simp only [go_sem, seval, hres, cmdZ, e4]
     repeat (first | (refine And.intro ?_ ?_; · first | exact ⟨by omega, .inr trivial, by omega, by omega⟩ | exact ⟨rfl, by simp [AV.sz, AV.szs, AV.memOK]⟩ | exact ⟨by simp; try omega, .inr trivial, by omega, by omega⟩) | refine peel ?_)
     refine hK _ _ _ ?_; clear hK K
     refine awp_ret ?_
     try simp only [go_sem, seval]
     refine ⟨_, _, _, _, _, _, _, _, _, _, _, _, _, _, _, _, _, _, _, _, _, _, _, _, _, rfl, hp6.addList (kl := n5) (els := (c.q.fams.take 20).map fun x => .int .i64 x) (ks2 := []) ⟨OwnL.nks _ (fun x hx => by obtain ⟨y, _, rfl⟩ := List.mem_map.1 hx; trivial), List.nodup_nil, fun k h => by simp at h⟩ (by rw [Heap.put_ne _ _ (by omega), Heap.put_ne _ _ (by omega)]; exact Heap.put_same _ _ _) hEl.symm (fun k h1 h2 h3 => by rw [Heap.put_ne _ _ (by omega), Heap.put_ne _ _ (by omega), Heap.put_ne _ _ (by omega)]) (by omega) (by omega), fun k hk => by rw [Heap.put_ne _ _ (by omega), Heap.put_ne _ _ (by omega), Heap.put_ne _ _ (by omega)]; exact qlow6 k hk, by omega⟩
theorem o_law14_command (c : CmdE) (H : Heap) (n : Nat) : ACalls Tryz.prog 14 [cmdAV c] H n (OAns H n (cmdAV (cmdT c))) := (x_law14_command c H n).mono fun _ _ _ h => h.oans
theorem c_law14_command (c : CmdE) (H : Heap) (n : Nat) : Ret Tryz.prog 14 [cmdAV c] H n (cmdAV (cmdT c)) H n := OAns.fin (o_law14_command c H n)
end Go.Proofs.YtifnhpmeoogedaaGreatDoor
namespace Go.Rt
open Go Go.Sx
theorem own_osl_inv {H : Heap} {k ver len e : Nat} {ys : List AV} {ks : List Nat} (h : Own H (.osl k ver 0 len) (.sl e ys) ks) : ∃ els ks', ks = k :: ks' ∧ H k = some (.arr ver e els) ∧ len ≤ els.length ∧ OwnL H (els.take len) ys ks' := by
  cases h with
  | osl h1 h2 h3 => exact ⟨_, _, rfl, h1, h2, h3⟩
theorem own_int_inv {H : Heap} {a : AV} {k : IntKind} {n : Int} {ks : List Nat} (h : Own H a (.int k n) ks) : a = .int k n ∧ ks = [] := by
  cases h with
  | nk _ => exact ⟨rfl, rfl⟩
theorem own_sl_sz {H : Heap} {a : AV} {e : Nat} {ys : List AV} {ks : List Nat} (h : Own H a (.sl e ys) ks) : a.sz = 1 := by
  cases h with
  | nk h => exact h.elim
  | nilsl => rfl
  | osl _ _ _ => rfl
theorem own_sl_mem {H : Heap} {a : AV} {e : Nat} {ys : List AV} {ks : List Nat} (h : Own H a (.sl e ys) ks) : a.memOK = true ∧ a.isAgg = false := by
  cases h with
  | nk h => exact h.elim
  | nilsl => exact ⟨rfl, rfl⟩
  | osl _ _ _ => exact ⟨rfl, rfl⟩
theorem own_op_inv {H : Heap} {a : AV} {x : OpE} {ks : List Nat} (h : Own H a (opAV x) ks) : ∃ q v k1 k2, a = .agg [.int .i64 x.kind, .int .i64 x.fam, q, .int .i64 x.ts, v, .int .i64 x.delta] ∧ Own H q (bys x.qual) k1 ∧ Own H v (bys x.value) k2 ∧ ks = k1 ++ k2 := by
  cases h with
  | nk h => exact h.elim
  | agg h =>
    cases h with | cons h1 h =>
    cases h with | cons h2 h =>
    cases h with | cons h3 h =>
    cases h with | cons h4 h =>
    cases h with | cons h5 h =>
    cases h with | cons h6 h =>
    cases h with | nil =>
    obtain ⟨rfl, rfl⟩ := own_int_inv h1
    obtain ⟨rfl, rfl⟩ := own_int_inv h2
    obtain ⟨rfl, rfl⟩ := own_int_inv h4
    obtain ⟨rfl, rfl⟩ := own_int_inv h6
    exact ⟨_, _, _, _, rfl, h3, h5, by simp⟩
theorem OwnL.change {H : Heap} {az bs : List AV} {ks : List Nat} (h : OwnL H az bs ks) (hn : ks.Nodup) (i : Nat) (hi : i < az.length) {k ver len e : Nat} {ys : List AV} (ha : nth az i = .osl k ver 0 len) (hb : nth bs i = .sl e ys) :
    ∃ els ks', H k = some (.arr ver e els) ∧ len ≤ els.length ∧ OwnL H (els.take len) ys ks' ∧ k ∉ ks' ∧ ks'.Nodup ∧ k ∈ ks ∧ (∀ j ∈ ks', j ∈ ks) ∧ ∀ (H2 : Heap) (x y : AV), (∀ j ∈ ks, j ≠ k → j ∉ ks' → H2 j = H j) → Frz H2 0 x y → FrzL H2 0 (az.take i ++ x :: az.drop (i + 1)) (bs.take i ++ y :: bs.drop (i + 1)) := by
  obtain ⟨k1, k2, k3, rfl, h1, h2, h3⟩ := h.nth hi
  rw [ha, hb] at h2
  obtain ⟨els, ks', rfl, g1, g2, g3⟩ := own_osl_inv h2
  have hn1 := List.nodup_append.1 hn
  have hn2 := List.nodup_append.1 hn1.2.1
  have hn3 := List.nodup_cons.1 hn2.1
  refine ⟨els, ks', g1, g2, g3, hn3.1, hn3.2, by simp, fun j hj => by simp [hj], fun H2 x y hH hf => ?_⟩
  have f1 := (h1.frame (H' := H2) fun j hj => hH j (by simp [hj]) (fun e => hn1.2.2 j hj k (by simp) e) (fun hm => hn1.2.2 j hj j (by simp [hm]) rfl)).frz (n := 0) (fun _ _ => Nat.zero_le _)
  have f3 := (h3.frame (H' := H2) fun j hj => hH j (by simp [hj]) (fun e => hn2.2.2 k (by simp) j hj e.symm) (fun hm => hn2.2.2 j (by simp [hm]) j hj rfl)).frz (n := 0) (fun _ _ => Nat.zero_le _)
  have app : ∀ {a b c d : List AV}, FrzL H2 0 a b → FrzL H2 0 c d → FrzL H2 0 (a ++ c) (b ++ d) := by
    intro a
    induction a with
    | nil => intro b c d h1 h2; cases h1; exact h2
    | cons a l ih => intro b c d h1 h2; cases h1 with | cons u v => exact .cons u (ih v h2)
  exact app f1 (.cons hf f3)
theorem frzL_snoc {H : Heap} {n : Nat} : ∀ {a b : List AV} {x y : AV}, FrzL H n a b → Frz H n x y → FrzL H n (a ++ [x]) (b ++ [y])
  | _, _, _, _, .nil, h => .cons h .nil
  | _, _, _, _, .cons u v, h => .cons u (frzL_snoc v h)
theorem frz_more {H H2 : Heap} {k ver e len : Nat} {els ys : List AV} {ks : List Nat} {x y : AV} (h2 : H2 k = some (.arr ver e (els.take len ++ [x]))) (hl : len ≤ els.length) (h3 : OwnL H (els.take len) ys ks) (hf : ∀ j ∈ ks, H2 j = H j) (hx : Frz H2 0 x y) : Frz H2 0 (.osl k ver 0 (len + 1)) (.sl e (ys ++ [y])) :=
  .osl h2 (Nat.zero_le _) (by simp; omega) (by
    rw [List.drop_zero, List.take_of_length_le (by simp; omega)]
    exact frzL_snoc ((h3.frame hf).frz fun _ _ => Nat.zero_le _) hx)
theorem frz_cmdX {H : Heap} (c : CmdE) (whr : List UInt8) {r d o f t m p k r' d' o' f' t' m' p' k' : AV} (h : FrzL H 0 [r, d, o, f, t, p, k, m] [r', d', o', f', t', p', k', m']) :
    Frz H 0 (cmdX c whr r d o f t m p k) (cmdX c whr r' d' o' f' t' m' p' k') := by
  cases h with | cons h1 h =>
  cases h with | cons h2 h =>
  cases h with | cons h3 h =>
  cases h with | cons h4 h =>
  cases h with | cons h5 h =>
  cases h with | cons h6 h =>
  cases h with | cons h7 h =>
  cases h with | cons h8 h =>
  exact .agg (.cons (.kl trivial) (.cons (.kl trivial) (.cons (.kl trivial) (.cons h1 (.cons h2 (.cons h3 (.cons (.kl trivial) (.cons (.agg (.cons h4 (.cons h5 (.cons h8 (.cons h6 (.cons (.kl trivial) (.cons (.kl trivial) (.cons (.kl trivial) (.cons (.kl trivial) (.cons (.kl trivial) (.cons h7 .nil))))))))))) .nil))))))))
theorem wrap_succ_ne (x : Int) : IntKind.i64.wrap (x + 1) ≠ x := by
  intro h
  have := IntKind.wrap_i64 (x + 1)
  rw [h] at this
  omega
end Go.Rt
namespace Go.Rt
open Go Go.Sx
theorem own_take_len {H : Heap} {els ys : List AV} {len : Nat} {ks : List Nat} (h : OwnL H (els.take len) ys ks) (hl : len ≤ els.length) : len = ys.length := by
  have := h.len; rw [List.length_take] at this; omega
end Go.Rt
namespace Go.Rt
open Go Go.Sx
theorem own_ops_head {H : Heap} {els : List AV} {len : Nat} {x : OpE} {xs : List OpE} {ks : List Nat} (h : OwnL H (els.take len) ((x :: xs).map opAV) ks) :
    ∃ q v l k1 k2 k3 m, len = m + 1 ∧ els = .agg [.int .i64 x.kind, .int .i64 x.fam, q, .int .i64 x.ts, v, .int .i64 x.delta] :: l ∧ Own H q (bys x.qual) k1 ∧ Own H v (bys x.value) k2 ∧ OwnL H (l.take m) (xs.map opAV) k3 ∧ ks = (k1 ++ k2) ++ k3 := by
  cases len with
  | zero => rw [List.take_zero] at h; cases h
  | succ m =>
    cases els with
    | nil => rw [List.take_nil] at h; cases h
    | cons a l =>
      rw [List.take_succ_cons, List.map_cons] at h
      cases h with
      | cons h1 h2 =>
        obtain ⟨q, v, k1, k2, rfl, g1, g2, rfl⟩ := own_op_inv h1
        exact ⟨q, v, l, k1, k2, _, m, rfl, rfl, g1, g2, h2, rfl⟩
end Go.Rt
namespace Go.Proofs.YtifnhpmeoogedaaGreatDoor
open Go Go.Sx Go.Rt Go.Proofs
theorem callQ_mk {P : Program} {f : FuncId} {fn : Func} {first captured args args' : List AV} {H : Heap} {r : AV}
    (hf : P.funcs[f]? = some fn) (hb : fn.body.isSome = true) (hn : (fn.name == "runtime.NumGoroutine") = false) (ha : first ++ args ++ captured = args') (h : ∀ n, Ret P f args' H n r H n) : CallQ P (.fn (.func f) first captured) args H r :=
  fun n => callK_use hf hb hn ha (h n) ⟨rfl, rfl, rfl⟩
set_option maxRecDepth 100000 in
set_option maxHeartbeats 3200000 in
theorem c_law14_OrderSame (a b : CmdE) (at' : Int) {H : Heap} {n : Nat} (hG : GOK 0 2 H n) : Ret Tryz.prog 5 [cmdAV a, cmdAV b, .int .i64 at'] H n (.bool true) H n := by
  have hca : ∀ c, (cmdAV c).isAgg = true := fun _ => rfl
  have hcm : ∀ c, (cmdAV c).memOK = true := fun _ => rfl
  have k1 : (0 : Nat) = 0 := rfl
  have hst : ∀ g c, strip g (cmdAV c) = cmdAV c := fun g _ => by cases g <;> rfl
  have hdt : decide True = true := rfl
  have f1 : (n = n + 1 + 2) = False := by simp; omega
  have f3 : (n = n + 3) = False := by simp
  have f4 : (n + 1 = n + 3) = False := by simp
  have f2 : (n + 1 = n + 1 + 2) = False := by simp
  refine Ret.fin ?_
  refine acalls_of_awp Tryz.func5 rfl Tryz.ntmps5 (congrArg Array.toList Tryz.results5) (by simp) ?_
  simp only [go_sem]
  refine awp_reg zs [2, 3, 4] fun K hK => ?_
  try simp only [go_sem, seval, hcm, cmdAV_sz]
  repeat (first | (refine And.intro ?_ ?_; · first | exact ⟨by omega, .inr trivial, by omega, by omega⟩ | exact ⟨rfl, by simp [AV.sz, AV.szs, AV.memOK]⟩ | exact ⟨by simp; try omega, .inr trivial, by omega, by omega⟩) | refine peel ?_)
  refine hK _ _ _ ?_; clear hK K
  refine awp_seq_k fun K1 hK1 => ?_
  refine awp_reg zs [2, 3, 4, 11] fun K hK => ?_
  try simp only [go_sem, seval]
  repeat (first | (refine And.intro ?_ ?_; · first | exact ⟨by omega, .inr trivial, by omega, by omega⟩ | exact ⟨rfl, by simp [AV.sz, AV.szs, AV.memOK]⟩ | exact ⟨by simp; try omega, .inr trivial, by omega, by omega⟩) | refine peel ?_)
  refine callK_use Tryz.func12 rfl rfl rfl ((c_law14_told (hG.on (fun k hk => by (try simp only [Heap.put_get]); (repeat rw [if_neg (by omega)])) (by omega)))) ?_
  try simp only [go_sem, seval]
  repeat (first | (refine And.intro ?_ ?_; · first | exact ⟨by omega, .inr trivial, by omega, by omega⟩ | exact ⟨rfl, by simp [AV.sz, AV.szs, AV.memOK]⟩ | exact ⟨by simp; try omega, .inr trivial, by omega, by omega⟩) | refine peel ?_)
  refine hK _ _ _ ?_; clear hK K
  refine awp_cnd (fun hb => ?_) (fun hb => ?_)
  ·skip
   exact absurd hb (by decide) --dead
  ·skip
   refine awp_skip ?_
   try simp only [go_sem, seval]
   refine hK1 _ _ _ ?_
   first | clear hK1 K1 | skip
   refine awp_lay 1 ?_
   refine awp_lay 1 ?_
   refine awp_drp rfl zs [2, 3, 4, 7, 8] [.q, .c, .q, .c, .a (n + 2) [0, 1, 2, 3], .a (n + 3) [0, 1, 2, 3], .w [], .w []] [0, 1, 2, 3, 4, 5, 6, 7] [0, 1, 2, 3, 4, 5, 6, 7] (by kernel_rfl) (fun _ _ _ _ _ h => h) fun K hK => ?_
   try simp only [go_sem, seval, f1, f2, hst, hca, cmdAV_sz]
   repeat (first | (refine And.intro ?_ ?_; · first | exact fun H2 hag => by have g1 := hag.at n (by simp [Heap.put, f1, f2]); have g2 := hag.at (n + 1) (by simp [Heap.put, f1, f2]); simp [Heap.put, f1, f2] at g1 g2; simp only [go_sem, seval, f1, f2, f3, f4, hst, hca, hcm, cmdAV_sz, g1, g2]; (try simp only [forall_const, true_and]); exact ⟨fun d hd => by cases hd; exact callQ_mk Tryz.func14 rfl rfl rfl (fun n => c_law14_command a _ n), fun d hd => by cases hd; exact callQ_mk Tryz.func14 rfl rfl rfl (fun n => c_law14_command b _ n)⟩ | exact ⟨by omega, .inr trivial, by omega, by omega⟩ | exact ⟨rfl, by simp [AV.sz, AV.szs, AV.memOK]⟩ | exact ⟨by simp; try omega, .inr trivial, by omega, by omega⟩) | refine peel ?_)
   refine callQG_use Tryz.func14 rfl rfl rfl (fun _ n => (c_law14_command a _ _)) ?_
   try simp only [go_sem, seval, hcm, cmdAV_sz]
   repeat (first | (refine And.intro ?_ ?_; · first | exact fun H2 hag => by have g1 := hag.at n (by simp [Heap.put, f1, f2]); have g2 := hag.at (n + 1) (by simp [Heap.put, f1, f2]); simp [Heap.put, f1, f2] at g1 g2; simp only [go_sem, seval, f1, f2, f3, f4, hst, hca, hcm, cmdAV_sz, g1, g2]; (try simp only [forall_const, true_and]); exact ⟨fun d hd => by cases hd; exact callQ_mk Tryz.func14 rfl rfl rfl (fun n => c_law14_command a _ n), fun d hd => by cases hd; exact callQ_mk Tryz.func14 rfl rfl rfl (fun n => c_law14_command b _ n)⟩ | exact ⟨by omega, .inr trivial, by omega, by omega⟩ | exact ⟨rfl, by simp [AV.sz, AV.szs, AV.memOK]⟩ | exact ⟨by simp; try omega, .inr trivial, by omega, by omega⟩) | refine peel ?_)
   refine callQG_use Tryz.func14 rfl rfl rfl (fun _ n => (c_law14_command b _ _)) ?_
   try simp only [go_sem, seval, hcm, cmdAV_sz]
   repeat (first | (refine And.intro ?_ ?_; · first | exact fun H2 hag => by have g1 := hag.at n (by simp [Heap.put, f1, f2]); have g2 := hag.at (n + 1) (by simp [Heap.put, f1, f2]); simp [Heap.put, f1, f2] at g1 g2; simp only [go_sem, seval, f1, f2, f3, f4, hst, hca, hcm, cmdAV_sz, g1, g2]; (try simp only [forall_const, true_and]); exact ⟨fun d hd => by cases hd; exact callQ_mk Tryz.func14 rfl rfl rfl (fun n => c_law14_command a _ n), fun d hd => by cases hd; exact callQ_mk Tryz.func14 rfl rfl rfl (fun n => c_law14_command b _ n)⟩ | exact ⟨by omega, .inr trivial, by omega, by omega⟩ | exact ⟨rfl, by simp [AV.sz, AV.szs, AV.memOK]⟩ | exact ⟨by simp; try omega, .inr trivial, by omega, by omega⟩) | refine peel ?_)
   refine hK _ _ _ ?_; clear hK K
   refine awp_seq_k fun K2 hK2 => ?_
   refine awp_drp rfl zs [2, 3, 7, 40] [.q, .q, .c, .q, .c, .q, .c, .c, .q, .m, .q, .q, .c, .q, .q, .c, .q, .q, .m, .q, .q, .c, .c, .q, .q] [0, 1, 2, 3, 4, 5, 6, 7, 8, 9, 10, 11, 12, 13, 14, 15, 16, 17, 18, 19, 20, 21, 22, 23, 24] [0, 1, 2, 3, 4, 5, 6, 7, 8, 9, 10, 11, 12, 13, 14, 15, 16, 17, 18, 19, 20, 21, 22, 23, 24] (by kernel_rfl) (fun _ _ _ _ _ h => h) fun K hK => ?_
   try simp only [go_sem, seval, f1, f2, hst, hca, cmdAV_sz]
   repeat (first | (refine And.intro ?_ ?_; · first | exact ⟨by omega, .inr trivial, by omega, by omega⟩ | exact ⟨rfl, by simp [AV.sz, AV.szs, AV.memOK]⟩ | exact ⟨by simp; try omega, .inr trivial, by omega, by omega⟩) | refine peel ?_)
   refine callQG_use Tryz.func31 rfl rfl rfl (fun _ n => (c_order_Same (cmdT a) (cmdT b) (cmdT_fits _) _ _)) ?_
   try simp only [go_sem, seval]
   repeat (first | (refine And.intro ?_ ?_; · first | exact ⟨by omega, .inr trivial, by omega, by omega⟩ | exact ⟨rfl, by simp [AV.sz, AV.szs, AV.memOK]⟩ | exact ⟨by simp; try omega, .inr trivial, by omega, by omega⟩) | refine peel ?_)
   refine callQG_use Tryz.func14 rfl rfl rfl (fun _ n => (c_law14_command a _ _)) ?_
   try simp only [go_sem, seval, hst]
   repeat (first | (refine And.intro ?_ ?_; · first | exact ⟨by omega, .inr trivial, by omega, by omega⟩ | exact ⟨rfl, by simp [AV.sz, AV.szs, AV.memOK]⟩ | exact ⟨by simp; try omega, .inr trivial, by omega, by omega⟩) | refine peel ?_)
   refine callQG_use Tryz.func14 rfl rfl rfl (fun _ n => (c_law14_command b _ _)) ?_
   try simp only [go_sem, seval, hst]
   repeat (first | (refine And.intro ?_ ?_; · first | exact ⟨by omega, .inr trivial, by omega, by omega⟩ | exact ⟨rfl, by simp [AV.sz, AV.szs, AV.memOK]⟩ | exact ⟨by simp; try omega, .inr trivial, by omega, by omega⟩) | refine peel ?_)
   refine callQG_use Tryz.func28 rfl rfl rfl (fun _ n => (c_ref14_Same (cmdT a) (cmdT b) (cmdT_fits _) _ _)) ?_
   try simp only [go_sem, seval]
   repeat (first | (refine And.intro ?_ ?_; · first | exact ⟨by omega, .inr trivial, by omega, by omega⟩ | exact ⟨rfl, by simp [AV.sz, AV.szs, AV.memOK]⟩ | exact ⟨by simp; try omega, .inr trivial, by omega, by omega⟩) | refine peel ?_)
   refine callQG_use Tryz.func31 rfl rfl rfl (fun _ n => (c_order_Same (cmdT b) (cmdT a) (cmdT_fits _) _ _)) ?_
   repeat (first | (refine And.intro ?_ ?_; · first | exact ⟨by omega, .inr trivial, by omega, by omega⟩ | exact ⟨rfl, by simp [AV.sz, AV.szs, AV.memOK]⟩ | exact ⟨by simp; try omega, .inr trivial, by omega, by omega⟩) | refine peel ?_)
   refine callQG_use Tryz.func31 rfl rfl rfl (fun _ n => (c_order_Same (cmdT a) (cmdT b) (cmdT_fits _) _ _)) ?_
   try simp only [go_sem, seval]
   repeat (first | (refine And.intro ?_ ?_; · first | exact ⟨by omega, .inr trivial, by omega, by omega⟩ | exact ⟨rfl, by simp [AV.sz, AV.szs, AV.memOK]⟩ | exact ⟨by simp; try omega, .inr trivial, by omega, by omega⟩) | refine peel ?_)
   refine callQG_use Tryz.func14 rfl rfl rfl (fun _ n => (c_law14_command a _ _)) ?_
   repeat (first | (refine And.intro ?_ ?_; · first | exact ⟨by omega, .inr trivial, by omega, by omega⟩ | exact ⟨rfl, by simp [AV.sz, AV.szs, AV.memOK]⟩ | exact ⟨by simp; try omega, .inr trivial, by omega, by omega⟩) | refine peel ?_)
   refine callQG_use Tryz.func31 rfl rfl rfl (fun _ n => (c_order_Same (cmdT a) (cmdT a) (cmdT_fits _) _ _)) ?_
   try simp only [go_sem, seval]
   repeat (first | (refine And.intro ?_ ?_; · first | exact ⟨by omega, .inr trivial, by omega, by omega⟩ | exact ⟨rfl, by simp [AV.sz, AV.szs, AV.memOK]⟩ | exact ⟨by simp; try omega, .inr trivial, by omega, by omega⟩) | refine peel ?_)
   refine hK _ _ _ ?_; clear hK K
   refine awp_cnd (fun hb => ?_) (fun hb => ?_)
   ·skip
    exact absurd hb (by by_cases h : cmdT a = cmdT b <;> simp [h, eq_comm (a := cmdT b)]) --dead
   ·skip
    refine awp_skip ?_
    try simp only [go_sem, seval]
    refine hK2 _ _ _ ?_
    first | clear hK2 K2 | skip
    refine awp_gen (fun H' n' => H' n = some (.arr 0 17 [cmdAV a]) ∧ H' (n + 2) = some (.arr 1 17 [cmdAV (cmdT a)]) ∧ (∀ k, k < n → H' k = H k) ∧ n + 4 ≤ n') ⟨by simp only [Heap.put_get]; (repeat rw [if_neg (by omega)]); simp, by simp only [Heap.put_get]; (repeat rw [if_neg (by omega)]); simp, fun k hk => by simp only [Heap.put_get]; (repeat rw [if_neg (by omega)]), by omega⟩ fun H5 n5 ⟨r1, r2, hl5, hn5⟩ => ?_
    refine awp_reg zs [2, 7, 9] fun K hK => ?_
    try simp only [go_sem, seval, hca, cmdAV_sz, r1]
    repeat (first | (refine And.intro ?_ ?_; · first | exact ⟨by omega, .inr trivial, by omega, by omega⟩ | exact ⟨rfl, by simp [AV.sz, AV.szs, AV.memOK]⟩ | exact ⟨by simp; try omega, .inr trivial, by omega, by omega⟩) | refine peel ?_)
    refine callK_useK (args' := [cmdAV a]) Tryz.func14 rfl rfl rfl (x_law14_command a _ _) ?_ ?_
    rotate_left
    · rintro p H9 n9 ⟨_, _, _, _, _, _, _, _, _, _, _, _, _, _, _, _, _, _, _, _, _, _, _, _, _, h9, _⟩; cases h9
    rintro rr H9 kz ⟨kr, vr, lr, kc, vc, lc, ko, vo, lo, kf, vf, lf, kt, vt, lt, kp, vp, lp, kk, vk, lk, km, vm, lm, ks, hres, hp, hl9, hn9⟩
    cases hres
    try simp only [go_sem, seval, cmdX, cmdX]
    repeat (first | (refine And.intro ?_ ?_; · first | exact ⟨by omega, .inr trivial, by omega, by omega⟩ | exact ⟨rfl, by simp [AV.sz, AV.szs, AV.memOK]⟩ | exact ⟨by simp; try omega, .inr trivial, by omega, by omega⟩) | refine peel ?_)
    refine hK _ _ _ ?_; clear hK K
    refine awp_gen (fun H' n' => H' kz = some (.arr 0 17 [cmdX (cmdT a) (cmdT a).q.whr (.osl kr vr 0 lr) (.osl kc vc 0 lc) (.osl ko vo 0 lo) (.osl kf vf 0 lf) (.osl kt vt 0 lt) (.osl km vm 0 lm) (.osl kp vp 0 lp) (.osl kk vk 0 lk)]) ∧ Pile (n5 + 2) [.osl kr vr 0 lr, .osl kc vc 0 lc, .osl ko vo 0 lo, .osl kf vf 0 lf, .osl kt vt 0 lt, .osl kp vp 0 lp, .osl kk vk 0 lk, .osl km vm 0 lm] [bys (cmdT a).row, .sl 4 ((cmdT a).conds.map condAV), .sl 6 ((cmdT a).ops.map opAV), bys (cmdT a).q.frm, bys (cmdT a).q.to, bys (cmdT a).q.pre, bys (cmdT a).q.token, numsAV (cmdT a).q.fams] ks H' kz ∧ H' (n + 2) = some (.arr 1 17 [cmdAV (cmdT a)]) ∧ (∀ k, k < n → H' k = H k) ∧ kz < n') ⟨Heap.put_same _ _ _, hp.on (fun k h1 h2 => Heap.put_ne _ _ (by omega)) (Nat.le_refl _), by rw [Heap.put_ne _ _ (by omega), hl9 _ (by omega)]; exact r2, fun k hk => by rw [Heap.put_ne _ _ (by omega), hl9 k (by omega)]; exact hl5 k hk, by omega⟩ fun H6 n6 ⟨qz, hp, q2, hl6, hn6⟩ => ?_
    obtain ⟨er, jr, hkr, hlr, hor, hnr, hdr, hmr, hsr, hcr⟩ := OwnL.change hp.own hp.nd 0 (by simp) rfl rfl
    have hLr := own_take_len hor hlr
    have hbr := hp.lo _ hmr
    have ezr : (kz = kr) = False := by simp; omega
    obtain ⟨ec, jc, hkc, hlc, hoc, hnc, hdc, hmc, hsc, hcc⟩ := OwnL.change hp.own hp.nd 1 (by simp) rfl rfl
    have hLc := own_take_len hoc hlc
    have hbc := hp.lo _ hmc
    have ezc : (kz = kc) = False := by simp; omega
    obtain ⟨eo, jo, hko, hlo, hoo, hno, hdo, hmo, hso, hco⟩ := OwnL.change hp.own hp.nd 2 (by simp) rfl rfl
    have hLo := own_take_len hoo hlo
    have hbo := hp.lo _ hmo
    have ezo : (kz = ko) = False := by simp; omega
    obtain ⟨ek, jk, hkk, hlk, hok, hnk, hdk, hmk, hsk, hck⟩ := OwnL.change hp.own hp.nd 6 (by simp) rfl rfl
    have hLk := own_take_len hok hlk
    have hbk := hp.lo _ hmk
    have ezk : (kz = kk) = False := by simp; omega
    obtain ⟨em, jm, hkm, hlm, hom, hnm, hdm, hmm, hsm, hcm⟩ := OwnL.change hp.own hp.nd 7 (by simp) rfl rfl
    have hLm := own_take_len hom hlm
    have hbm := hp.lo _ hmm
    have ezm : (kz = km) = False := by simp; omega
    have bL : lr ≤ 5000 ∧ lc ≤ 20 ∧ lo ≤ 20 ∧ lk ≤ 5000 ∧ lm ≤ 20 := by
      rw [hLr, hLc, hLo, hLk, hLm]
      refine ⟨?_, ?_, ?_, ?_, ?_⟩ <;> simp [cmdT, qryT] <;> omega
    have ez2 : (n + 2 = kz) = False := by simp; omega
    have hfr : ∀ H2 : Heap, (∀ k, k < kz → H2 k = H6 k) → FrzL H2 0 _ _ := fun H2 h => (hp.on (fun k h1 h2 => h k h2) (Nat.le_refl _)).own.frz (n := 0) (fun _ _ => Nat.zero_le _)
    have zf := cmdT_fits a
    have zb : (cmdT a).row.length ≤ 5000 ∧ (cmdT a).conds.length ≤ 20 ∧ (cmdT a).ops.length ≤ 20 ∧ (cmdT a).q.token.length ≤ 5000 ∧ (cmdT a).q.fams.length ≤ 20 := by
      refine ⟨?_, ?_, ?_, ?_, ?_⟩ <;> simp [cmdT, qryT] <;> omega
    refine awp_seq_jl [7, 9] (fun T' H' n' => ∃ e' v', T' = tl [(7, .loc (n + 2) 1 0 0 []), (9, .loc kz 0 0 0 [])] ∧ H' (n + 2) = some (.arr 1 17 [cmdAV (cmdT a)]) ∧ H' kz = some (.arr 0 17 [v']) ∧ v'.isAgg = true ∧ v'.memOK = true ∧ v'.sz = 17 ∧ Frz H' 0 v' (cmdAV e') ∧ e' ≠ cmdT a ∧ e'.fits ∧ (∀ k, k < n → H' k = H k)) ?_ ?_
    ·skip
     refine awp_reg zs [7, 9, 43] fun K hK => ?_
     try simp only [go_sem, seval]
     repeat (first | (refine And.intro ?_ ?_; · first | exact ⟨by omega, .inr trivial, by omega, by omega⟩ | exact ⟨rfl, by simp [AV.sz, AV.szs, AV.memOK]⟩ | exact ⟨by simp; try omega, .inr trivial, by omega, by omega⟩) | refine peel ?_)
     refine hK _ _ _ ?_; clear hK K
     refine awp_block ?_
     refine awp_reg zs [7, 9, 43, 56] fun K hK => ?_
     try simp only [go_sem, seval]
     repeat (first | (refine And.intro ?_ ?_; · first | exact ⟨by omega, .inr trivial, by omega, by omega⟩ | exact ⟨rfl, by simp [AV.sz, AV.szs, AV.memOK]⟩ | exact ⟨by simp; try omega, .inr trivial, by omega, by omega⟩) | refine peel ?_)
     refine hK _ _ _ ?_; clear hK K
     refine awp_cnd (fun hb => ?_) (fun hb => ?_)
     ·skip
      refine awp_reg1 zs [7, 9] fun K hK => ?_
      try simp only [go_sem, seval, cmdX, qz]
      repeat (first | (refine And.intro ?_ ?_; · first | exact ⟨by omega, .inr trivial, by omega, by omega⟩ | exact ⟨rfl, by simp [AV.sz, AV.szs, AV.memOK]⟩ | exact ⟨by simp; try omega, .inr trivial, by omega, by omega⟩) | refine peel ?_)
      refine hK _ _ _ ?_; clear hK K
      try simp only [go_sem, seval]
      exact ⟨{ cmdT a with kind := IntKind.i64.wrap ((cmdT a).kind + 1) }, _, by (repeat rw [if_neg (by omega)]); exact q2, rfl, rfl, rfl, by simp [AV.sz, AV.szs], frz_cmdX { cmdT a with kind := IntKind.i64.wrap ((cmdT a).kind + 1) } (cmdT a).q.whr (hfr _ (fun k hk => Heap.put_ne _ _ (by omega))), fun e => wrap_succ_ne _ (congrArg CmdE.kind e), ⟨zf.1, zf.2, zf.3, zf.4, zf.5, zf.6, zf.7, zf.8, zf.9, zf.10, zf.11⟩, fun k hk => by (repeat rw [if_neg (by omega)]); exact hl6 k hk⟩
     ·skip
      refine awp_reg zs [7, 9, 43, 62] fun K hK => ?_
      try simp only [go_sem, seval]
      repeat (first | (refine And.intro ?_ ?_; · first | exact ⟨by omega, .inr trivial, by omega, by omega⟩ | exact ⟨rfl, by simp [AV.sz, AV.szs, AV.memOK]⟩ | exact ⟨by simp; try omega, .inr trivial, by omega, by omega⟩) | refine peel ?_)
      refine hK _ _ _ ?_; clear hK K
      refine awp_cnd (fun hb => ?_) (fun hb => ?_)
      ·skip
       refine awp_reg1 zs [7, 9] fun K hK => ?_
       try simp only [go_sem, seval, cmdX, qz]
       repeat (first | (refine And.intro ?_ ?_; · first | exact ⟨by omega, .inr trivial, by omega, by omega⟩ | exact ⟨rfl, by simp [AV.sz, AV.szs, AV.memOK]⟩ | exact ⟨by simp; try omega, .inr trivial, by omega, by omega⟩) | refine peel ?_)
       refine hK _ _ _ ?_; clear hK K
       try simp only [go_sem, seval]
       exact ⟨{ cmdT a with client := IntKind.i64.wrap ((cmdT a).client + 1) }, _, by (repeat rw [if_neg (by omega)]); exact q2, rfl, rfl, rfl, by simp [AV.sz, AV.szs], frz_cmdX { cmdT a with client := IntKind.i64.wrap ((cmdT a).client + 1) } (cmdT a).q.whr (hfr _ (fun k hk => Heap.put_ne _ _ (by omega))), fun e => wrap_succ_ne _ (congrArg CmdE.client e), ⟨zf.1, zf.2, zf.3, zf.4, zf.5, zf.6, zf.7, zf.8, zf.9, zf.10, zf.11⟩, fun k hk => by (repeat rw [if_neg (by omega)]); exact hl6 k hk⟩
      ·skip
       refine awp_reg zs [7, 9, 43, 68] fun K hK => ?_
       try simp only [go_sem, seval]
       repeat (first | (refine And.intro ?_ ?_; · first | exact ⟨by omega, .inr trivial, by omega, by omega⟩ | exact ⟨rfl, by simp [AV.sz, AV.szs, AV.memOK]⟩ | exact ⟨by simp; try omega, .inr trivial, by omega, by omega⟩) | refine peel ?_)
       refine hK _ _ _ ?_; clear hK K
       refine awp_cnd (fun hb => ?_) (fun hb => ?_)
       ·skip
        refine awp_reg1 zs [7, 9] fun K hK => ?_
        try simp only [go_sem, seval, cmdX, qz]
        repeat (first | (refine And.intro ?_ ?_; · first | exact ⟨by omega, .inr trivial, by omega, by omega⟩ | exact ⟨rfl, by simp [AV.sz, AV.szs, AV.memOK]⟩ | exact ⟨by simp; try omega, .inr trivial, by omega, by omega⟩) | refine peel ?_)
        refine hK _ _ _ ?_; clear hK K
        try simp only [go_sem, seval]
        exact ⟨{ cmdT a with serial := IntKind.i64.wrap ((cmdT a).serial + 1) }, _, by (repeat rw [if_neg (by omega)]); exact q2, rfl, rfl, rfl, by simp [AV.sz, AV.szs], frz_cmdX { cmdT a with serial := IntKind.i64.wrap ((cmdT a).serial + 1) } (cmdT a).q.whr (hfr _ (fun k hk => Heap.put_ne _ _ (by omega))), fun e => wrap_succ_ne _ (congrArg CmdE.serial e), ⟨zf.1, zf.2, zf.3, zf.4, zf.5, zf.6, zf.7, zf.8, zf.9, zf.10, zf.11⟩, fun k hk => by (repeat rw [if_neg (by omega)]); exact hl6 k hk⟩
       ·skip
        refine awp_reg zs [7, 9, 43, 74] fun K hK => ?_
        try simp only [go_sem, seval]
        repeat (first | (refine And.intro ?_ ?_; · first | exact ⟨by omega, .inr trivial, by omega, by omega⟩ | exact ⟨rfl, by simp [AV.sz, AV.szs, AV.memOK]⟩ | exact ⟨by simp; try omega, .inr trivial, by omega, by omega⟩) | refine peel ?_)
        refine hK _ _ _ ?_; clear hK K
        refine awp_cnd (fun hb => ?_) (fun hb => ?_)
        ·skip
         refine awp_reg1 zs [7, 9] fun K hK => ?_
         try simp only [go_sem, seval, cmdX, qz]
         repeat (first | (refine And.intro ?_ ?_; · first | exact ⟨by omega, .inr trivial, by omega, by omega⟩ | exact ⟨rfl, by simp [AV.sz, AV.szs, AV.memOK]⟩ | exact ⟨by simp; try omega, .inr trivial, by omega, by omega⟩) | refine peel ?_)
         refine hK _ _ _ ?_; clear hK K
         try simp only [go_sem, seval]
         exact ⟨{ cmdT a with n := IntKind.i64.wrap ((cmdT a).n + 1) }, _, by (repeat rw [if_neg (by omega)]); exact q2, rfl, rfl, rfl, by simp [AV.sz, AV.szs], frz_cmdX { cmdT a with n := IntKind.i64.wrap ((cmdT a).n + 1) } (cmdT a).q.whr (hfr _ (fun k hk => Heap.put_ne _ _ (by omega))), fun e => wrap_succ_ne _ (congrArg CmdE.n e), ⟨zf.1, zf.2, zf.3, zf.4, zf.5, zf.6, zf.7, zf.8, zf.9, zf.10, zf.11⟩, fun k hk => by (repeat rw [if_neg (by omega)]); exact hl6 k hk⟩
        ·skip
         refine awp_reg zs [7, 9, 43, 80] fun K hK => ?_
         try simp only [go_sem, seval]
         repeat (first | (refine And.intro ?_ ?_; · first | exact ⟨by omega, .inr trivial, by omega, by omega⟩ | exact ⟨rfl, by simp [AV.sz, AV.szs, AV.memOK]⟩ | exact ⟨by simp; try omega, .inr trivial, by omega, by omega⟩) | refine peel ?_)
         refine hK _ _ _ ?_; clear hK K
         refine awp_cnd (fun hb => ?_) (fun hb => ?_)
         ·skip
          refine awp_reg1 zs [7, 9] fun K hK => ?_
          try simp only [go_sem, seval, cmdX, qz, hkr, ezr]
          repeat (first | (refine And.intro ?_ ?_; · first | exact ⟨by omega, .inr trivial, by omega, by omega⟩ | exact ⟨rfl, by simp [AV.sz, AV.szs, AV.memOK]⟩ | exact ⟨by simp; try omega, .inr trivial, by omega, by omega⟩) | refine peel ?_)
          refine hK _ _ _ ?_; clear hK K
          try simp only [go_sem, seval]
          refine ⟨{ cmdT a with row := (cmdT a).row ++ [1] }, _, by (repeat rw [if_neg (by omega)]); exact q2, rfl, rfl, rfl, by simp [AV.sz, AV.szs], ?_, fun e => by have := congrArg (fun c : CmdE => c.row.length) e; simp at this, ⟨by rw [List.length_append]; have := zb.1; simp; omega, zf.2, zf.3, zf.4, zf.5, zf.6, zf.7, zf.8, zf.9, zf.10, zf.11⟩, fun k hk => by (repeat rw [if_neg (by omega)]); exact hl6 k hk⟩
          rw [show cmdAV { cmdT a with row := (cmdT a).row ++ [1] } = cmdX (cmdT a) (cmdT a).q.whr (.sl 1 ((cmdT a).row.map byteAV ++ [.int .u8 1])) (.sl 4 ((cmdT a).conds.map condAV)) (.sl 6 ((cmdT a).ops.map opAV)) (bys (cmdT a).q.frm) (bys (cmdT a).q.to) (numsAV (cmdT a).q.fams) (bys (cmdT a).q.pre) (bys (cmdT a).q.token) by simp [cmdAV, cmdX, qryAV, bys, numsAV]; try rfl]
          exact frz_cmdX (cmdT a) (cmdT a).q.whr (hcr _ (.osl kr (vr + 1) 0 (lr + 1)) _ (fun j h1 h2 h3 => by have := hp.lo j h1; rw [Heap.put_ne _ _ (by omega), Heap.put_ne _ _ h2]) (frz_more (by rw [Heap.put_ne _ _ (by omega)]; exact Heap.put_same _ _ _) hlr hor (fun j hj => by have := hp.lo j (hsr j hj); rw [Heap.put_ne _ _ (by omega), Heap.put_ne _ _ (fun (e : j = kr) => hnr (e ▸ hj))]) (.kl trivial)))
         ·skip
          refine awp_reg zs [7, 9, 43, 87] fun K hK => ?_
          try simp only [go_sem, seval]
          repeat (first | (refine And.intro ?_ ?_; · first | exact ⟨by omega, .inr trivial, by omega, by omega⟩ | exact ⟨rfl, by simp [AV.sz, AV.szs, AV.memOK]⟩ | exact ⟨by simp; try omega, .inr trivial, by omega, by omega⟩) | refine peel ?_)
          refine hK _ _ _ ?_; clear hK K
          refine awp_cnd (fun hb => ?_) (fun hb => ?_)
          ·skip
           refine awp_reg1 zs [7, 9] fun K hK => ?_
           try simp only [go_sem, seval, cmdX, qz, hkc, ezc]
           repeat (first | (refine And.intro ?_ ?_; · first | exact ⟨by omega, .inr trivial, by omega, by omega⟩ | exact ⟨rfl, by simp [AV.sz, AV.szs, AV.memOK]⟩ | exact ⟨by simp; try omega, .inr trivial, by omega, by omega⟩) | refine peel ?_)
           refine hK _ _ _ ?_; clear hK K
           try simp only [go_sem, seval]
           refine ⟨{ cmdT a with conds := (cmdT a).conds ++ [⟨0, 0, [], []⟩] }, _, by (repeat rw [if_neg (by omega)]); exact q2, rfl, rfl, rfl, by simp [AV.sz, AV.szs], ?_, fun e => by have := congrArg (fun c : CmdE => c.conds.length) e; simp at this, ⟨zf.1, by show ((cmdT a).conds ++ _).length ≤ _; rw [List.length_append]; have := zb.2.1; simp; omega, fun x hx => by rcases List.mem_append.1 hx with h | h; exact zf.3 x h; simp at h; subst h; simp, zf.4, zf.5, zf.6, zf.7, zf.8, zf.9, zf.10, zf.11⟩, fun k hk => by (repeat rw [if_neg (by omega)]); exact hl6 k hk⟩
           rw [show cmdAV { cmdT a with conds := (cmdT a).conds ++ [⟨0, 0, [], []⟩] } = cmdX (cmdT a) (cmdT a).q.whr (bys (cmdT a).row) (.sl 4 ((cmdT a).conds.map condAV ++ [condAV ⟨0, 0, [], []⟩])) (.sl 6 ((cmdT a).ops.map opAV)) (bys (cmdT a).q.frm) (bys (cmdT a).q.to) (numsAV (cmdT a).q.fams) (bys (cmdT a).q.pre) (bys (cmdT a).q.token) by simp [cmdAV, cmdX, qryAV, bys, numsAV]; try rfl]
           exact frz_cmdX (cmdT a) (cmdT a).q.whr (hcc _ (.osl kc (vc + 1) 0 (lc + 1)) _ (fun j h1 h2 h3 => by have := hp.lo j h1; rw [Heap.put_ne _ _ (by omega), Heap.put_ne _ _ h2]) (frz_more (by rw [Heap.put_ne _ _ (by omega)]; exact Heap.put_same _ _ _) hlc hoc (fun j hj => by have := hp.lo j (hsc j hj); rw [Heap.put_ne _ _ (by omega), Heap.put_ne _ _ (fun (e : j = kc) => hnc (e ▸ hj))]) (.agg (.cons (.kl trivial) (.cons (.kl trivial) (.cons .nilsl (.cons .nilsl .nil)))))))
          ·skip
           refine awp_reg zs [7, 9, 43, 95] fun K hK => ?_
           try simp only [go_sem, seval]
           repeat (first | (refine And.intro ?_ ?_; · first | exact ⟨by omega, .inr trivial, by omega, by omega⟩ | exact ⟨rfl, by simp [AV.sz, AV.szs, AV.memOK]⟩ | exact ⟨by simp; try omega, .inr trivial, by omega, by omega⟩) | refine peel ?_)
           refine hK _ _ _ ?_; clear hK K
           refine awp_cnd (fun hb => ?_) (fun hb => ?_)
           ·skip
            refine awp_reg1 zs [7, 9] fun K hK => ?_
            try simp only [go_sem, seval, cmdX, qz, hko, ezo]
            repeat (first | (refine And.intro ?_ ?_; · first | exact ⟨by omega, .inr trivial, by omega, by omega⟩ | exact ⟨rfl, by simp [AV.sz, AV.szs, AV.memOK]⟩ | exact ⟨by simp; try omega, .inr trivial, by omega, by omega⟩) | refine peel ?_)
            refine hK _ _ _ ?_; clear hK K
            try simp only [go_sem, seval]
            refine ⟨{ cmdT a with ops := (cmdT a).ops ++ [⟨0, 0, [], 0, [], 0⟩] }, _, by (repeat rw [if_neg (by omega)]); exact q2, rfl, rfl, rfl, by simp [AV.sz, AV.szs], ?_, fun e => by have := congrArg (fun c : CmdE => c.ops.length) e; simp at this, ⟨zf.1, zf.2, zf.3, by show ((cmdT a).ops ++ _).length ≤ _; rw [List.length_append]; have := zb.2.2.1; simp; omega, fun x hx => by rcases List.mem_append.1 hx with h | h; exact zf.5 x h; simp at h; subst h; simp, zf.6, zf.7, zf.8, zf.9, zf.10, zf.11⟩, fun k hk => by (repeat rw [if_neg (by omega)]); exact hl6 k hk⟩
            rw [show cmdAV { cmdT a with ops := (cmdT a).ops ++ [⟨0, 0, [], 0, [], 0⟩] } = cmdX (cmdT a) (cmdT a).q.whr (bys (cmdT a).row) (.sl 4 ((cmdT a).conds.map condAV)) (.sl 6 ((cmdT a).ops.map opAV ++ [opAV ⟨0, 0, [], 0, [], 0⟩])) (bys (cmdT a).q.frm) (bys (cmdT a).q.to) (numsAV (cmdT a).q.fams) (bys (cmdT a).q.pre) (bys (cmdT a).q.token) by simp [cmdAV, cmdX, qryAV, bys, numsAV]; try rfl]
            exact frz_cmdX (cmdT a) (cmdT a).q.whr (hco _ (.osl ko (vo + 1) 0 (lo + 1)) _ (fun j h1 h2 h3 => by have := hp.lo j h1; rw [Heap.put_ne _ _ (by omega), Heap.put_ne _ _ h2]) (frz_more (by rw [Heap.put_ne _ _ (by omega)]; exact Heap.put_same _ _ _) hlo hoo (fun j hj => by have := hp.lo j (hso j hj); rw [Heap.put_ne _ _ (by omega), Heap.put_ne _ _ (fun (e : j = ko) => hno (e ▸ hj))]) (.agg (.cons (.kl trivial) (.cons (.kl trivial) (.cons .nilsl (.cons (.kl trivial) (.cons .nilsl (.cons (.kl trivial) .nil)))))))))
           ·skip
            refine awp_reg zs [7, 9, 43, 103] fun K hK => ?_
            try simp only [go_sem, seval]
            repeat (first | (refine And.intro ?_ ?_; · first | exact ⟨by omega, .inr trivial, by omega, by omega⟩ | exact ⟨rfl, by simp [AV.sz, AV.szs, AV.memOK]⟩ | exact ⟨by simp; try omega, .inr trivial, by omega, by omega⟩) | refine peel ?_)
            refine hK _ _ _ ?_; clear hK K
            refine awp_cnd (fun hb => ?_) (fun hb => ?_)
            ·skip
             refine awp_reg1 zs [7, 9] fun K hK => ?_
             try simp only [go_sem, seval, cmdX, qz]
             repeat (first | (refine And.intro ?_ ?_; · first | exact ⟨by omega, .inr trivial, by omega, by omega⟩ | exact ⟨rfl, by simp [AV.sz, AV.szs, AV.memOK]⟩ | exact ⟨by simp; try omega, .inr trivial, by omega, by omega⟩) | refine peel ?_)
             refine hK _ _ _ ?_; clear hK K
             try simp only [go_sem, seval]
             exact ⟨{ cmdT a with q := { (cmdT a).q with n := IntKind.i64.wrap ((cmdT a).q.n + 1) } }, _, by (repeat rw [if_neg (by omega)]); exact q2, rfl, rfl, rfl, by simp [AV.sz, AV.szs], frz_cmdX { cmdT a with q := { (cmdT a).q with n := IntKind.i64.wrap ((cmdT a).q.n + 1) } } (cmdT a).q.whr (hfr _ (fun k hk => Heap.put_ne _ _ (by omega))), fun e => wrap_succ_ne _ (congrArg (fun c : CmdE => c.q.n) e), ⟨zf.1, zf.2, zf.3, zf.4, zf.5, zf.6, zf.7, zf.8, zf.9, zf.10, zf.11⟩, fun k hk => by (repeat rw [if_neg (by omega)]); exact hl6 k hk⟩
            ·skip
             refine awp_reg zs [7, 9, 43, 111] fun K hK => ?_
             try simp only [go_sem, seval]
             repeat (first | (refine And.intro ?_ ?_; · first | exact ⟨by omega, .inr trivial, by omega, by omega⟩ | exact ⟨rfl, by simp [AV.sz, AV.szs, AV.memOK]⟩ | exact ⟨by simp; try omega, .inr trivial, by omega, by omega⟩) | refine peel ?_)
             refine hK _ _ _ ?_; clear hK K
             refine awp_cnd (fun hb => ?_) (fun hb => ?_)
             ·skip
              refine awp_reg1 zs [7, 9] fun K hK => ?_
              try simp only [go_sem, seval, cmdX, qz]
              repeat (first | (refine And.intro ?_ ?_; · first | exact ⟨by omega, .inr trivial, by omega, by omega⟩ | exact ⟨rfl, by simp [AV.sz, AV.szs, AV.memOK]⟩ | exact ⟨by simp; try omega, .inr trivial, by omega, by omega⟩) | refine peel ?_)
              refine hK _ _ _ ?_; clear hK K
              try simp only [go_sem, seval]
              exact ⟨{ cmdT a with q := { (cmdT a).q with rev := !(cmdT a).q.rev } }, _, by (repeat rw [if_neg (by omega)]); exact q2, rfl, rfl, rfl, by simp [AV.sz, AV.szs], frz_cmdX { cmdT a with q := { (cmdT a).q with rev := !(cmdT a).q.rev } } (cmdT a).q.whr (hfr _ (fun k hk => Heap.put_ne _ _ (by omega))), fun e => by have := congrArg (fun c : CmdE => c.q.rev) e; simp at this, ⟨zf.1, zf.2, zf.3, zf.4, zf.5, zf.6, zf.7, zf.8, zf.9, zf.10, zf.11⟩, fun k hk => by (repeat rw [if_neg (by omega)]); exact hl6 k hk⟩
             ·skip
              refine awp_reg zs [7, 9, 43, 119] fun K hK => ?_
              try simp only [go_sem, seval]
              repeat (first | (refine And.intro ?_ ?_; · first | exact ⟨by omega, .inr trivial, by omega, by omega⟩ | exact ⟨rfl, by simp [AV.sz, AV.szs, AV.memOK]⟩ | exact ⟨by simp; try omega, .inr trivial, by omega, by omega⟩) | refine peel ?_)
              refine hK _ _ _ ?_; clear hK K
              refine awp_cnd (fun hb => ?_) (fun hb => ?_)
              ·skip
               have hwb : (cmdT a).q.whr.length ≤ 5000 := by simp [cmdT, qryT]; omega
               refine awp_reg1 zs [7, 9] fun K hK => ?_
               try simp only [go_sem, seval, cmdX, qz]
               repeat (first | (refine And.intro ?_ ?_; · first | omega | exact ⟨by omega, rfl⟩ | exact ⟨by omega, .inr trivial, by omega, by omega⟩ | exact ⟨rfl, by simp [AV.sz, AV.szs, AV.memOK]⟩ | exact ⟨by simp; try omega, .inr trivial, by omega, by omega⟩) | refine peel ?_)
               refine hK _ _ _ ?_; clear hK K
               try simp only [go_sem, seval]
               exact ⟨{ cmdT a with q := { (cmdT a).q with whr := (cmdT a).q.whr ++ [120] } }, _, by (repeat rw [if_neg (by omega)]); exact q2, rfl, rfl, rfl, by simp [AV.sz, AV.szs], frz_cmdX { cmdT a with q := { (cmdT a).q with whr := (cmdT a).q.whr ++ [120] } } ((cmdT a).q.whr ++ [120]) (hfr _ (fun k hk => Heap.put_ne _ _ (by omega))), fun e => by have := congrArg (fun c : CmdE => c.q.whr.length) e; simp at this, ⟨zf.1, zf.2, zf.3, zf.4, zf.5, zf.6, zf.7, zf.8, zf.9, by show ((cmdT a).q.whr ++ _).length ≤ _; rw [List.length_append]; simp; omega, zf.11⟩, fun k hk => by (repeat rw [if_neg (by omega)]); exact hl6 k hk⟩
              ·skip
               refine awp_reg zs [7, 9, 43, 127] fun K hK => ?_
               try simp only [go_sem, seval]
               repeat (first | (refine And.intro ?_ ?_; · first | exact ⟨by omega, .inr trivial, by omega, by omega⟩ | exact ⟨rfl, by simp [AV.sz, AV.szs, AV.memOK]⟩ | exact ⟨by simp; try omega, .inr trivial, by omega, by omega⟩) | refine peel ?_)
               refine hK _ _ _ ?_; clear hK K
               refine awp_cnd (fun hb => ?_) (fun hb => ?_)
               ·skip
                refine awp_reg1 zs [7, 9] fun K hK => ?_
                try simp only [go_sem, seval, cmdX, qz, hkk, ezk]
                repeat (first | (refine And.intro ?_ ?_; · first | exact ⟨by omega, .inr trivial, by omega, by omega⟩ | exact ⟨rfl, by simp [AV.sz, AV.szs, AV.memOK]⟩ | exact ⟨by simp; try omega, .inr trivial, by omega, by omega⟩) | refine peel ?_)
                refine hK _ _ _ ?_; clear hK K
                try simp only [go_sem, seval]
                refine ⟨{ cmdT a with q := { (cmdT a).q with token := (cmdT a).q.token ++ [1] } }, _, by (repeat rw [if_neg (by omega)]); exact q2, rfl, rfl, rfl, by simp [AV.sz, AV.szs], ?_, fun e => by have := congrArg (fun c : CmdE => c.q.token.length) e; simp at this, ⟨zf.1, zf.2, zf.3, zf.4, zf.5, zf.6, zf.7, zf.8, zf.9, zf.10, by show ((cmdT a).q.token ++ _).length ≤ _; rw [List.length_append]; have := zb.2.2.2.1; simp; omega⟩, fun k hk => by (repeat rw [if_neg (by omega)]); exact hl6 k hk⟩
                rw [show cmdAV { cmdT a with q := { (cmdT a).q with token := (cmdT a).q.token ++ [1] } } = cmdX (cmdT a) (cmdT a).q.whr (bys (cmdT a).row) (.sl 4 ((cmdT a).conds.map condAV)) (.sl 6 ((cmdT a).ops.map opAV)) (bys (cmdT a).q.frm) (bys (cmdT a).q.to) (numsAV (cmdT a).q.fams) (bys (cmdT a).q.pre) (.sl 1 ((cmdT a).q.token.map byteAV ++ [.int .u8 1])) by simp [cmdAV, cmdX, qryAV, bys, numsAV]; try rfl]
                exact frz_cmdX (cmdT a) (cmdT a).q.whr (hck _ (.osl kk (vk + 1) 0 (lk + 1)) _ (fun j h1 h2 h3 => by have := hp.lo j h1; rw [Heap.put_ne _ _ (by omega), Heap.put_ne _ _ h2]) (frz_more (by rw [Heap.put_ne _ _ (by omega)]; exact Heap.put_same _ _ _) hlk hok (fun j hj => by have := hp.lo j (hsk j hj); rw [Heap.put_ne _ _ (by omega), Heap.put_ne _ _ (fun (e : j = kk) => hnk (e ▸ hj))]) (.kl trivial)))
               ·skip
                refine awp_reg zs [7, 9, 136] fun K hK => ?_
                try simp only [go_sem, seval]
                repeat (first | (refine And.intro ?_ ?_; · first | exact ⟨by omega, .inr trivial, by omega, by omega⟩ | exact ⟨rfl, by simp [AV.sz, AV.szs, AV.memOK]⟩ | exact ⟨by simp; try omega, .inr trivial, by omega, by omega⟩) | refine peel ?_)
                refine hK _ _ _ ?_; clear hK K
                refine awp_cnd (fun hb => ?_) (fun hb => ?_)
                ·skip
                 refine awp_reg1 zs [7, 9] fun K hK => ?_
                 try simp only [go_sem, seval, cmdX, qz, hkm, ezm]
                 repeat (first | (refine And.intro ?_ ?_; · first | exact ⟨by omega, .inr trivial, by omega, by omega⟩ | exact ⟨rfl, by simp [AV.sz, AV.szs, AV.memOK]⟩ | exact ⟨by simp; try omega, .inr trivial, by omega, by omega⟩) | refine peel ?_)
                 refine hK _ _ _ ?_; clear hK K
                 try simp only [go_sem, seval]
                 refine ⟨{ cmdT a with q := { (cmdT a).q with fams := (cmdT a).q.fams ++ [1] } }, _, by (repeat rw [if_neg (by omega)]); exact q2, rfl, rfl, rfl, by simp [AV.sz, AV.szs], ?_, fun e => by have := congrArg (fun c : CmdE => c.q.fams.length) e; simp at this, ⟨zf.1, zf.2, zf.3, zf.4, zf.5, zf.6, zf.7, by show ((cmdT a).q.fams ++ _).length ≤ _; rw [List.length_append]; have := zb.2.2.2.2; simp; omega, zf.9, zf.10, zf.11⟩, fun k hk => by (repeat rw [if_neg (by omega)]); exact hl6 k hk⟩
                 rw [show cmdAV { cmdT a with q := { (cmdT a).q with fams := (cmdT a).q.fams ++ [1] } } = cmdX (cmdT a) (cmdT a).q.whr (bys (cmdT a).row) (.sl 4 ((cmdT a).conds.map condAV)) (.sl 6 ((cmdT a).ops.map opAV)) (bys (cmdT a).q.frm) (bys (cmdT a).q.to) (.sl 1 (((cmdT a).q.fams.map fun x : Int => (.int .i64 x : AV)) ++ [.int .i64 1])) (bys (cmdT a).q.pre) (bys (cmdT a).q.token) by simp [cmdAV, cmdX, qryAV, bys, numsAV]; try rfl]
                 exact frz_cmdX (cmdT a) (cmdT a).q.whr (hcm _ (.osl km (vm + 1) 0 (lm + 1)) _ (fun j h1 h2 h3 => by have := hp.lo j h1; rw [Heap.put_ne _ _ (by omega), Heap.put_ne _ _ h2]) (frz_more (by rw [Heap.put_ne _ _ (by omega)]; exact Heap.put_same _ _ _) hlm hom (fun j hj => by have := hp.lo j (hsm j hj); rw [Heap.put_ne _ _ (by omega), Heap.put_ne _ _ (fun (e : j = km) => hnm (e ▸ hj))]) (.kl trivial)))
                ·skip
                 refine awp_seq_k fun K3 hK3 => ?_
                 refine awp_reg zs [7, 9, 47] fun K hK => ?_
                 try simp only [go_sem, seval, cmdX, qz]
                 repeat (first | (refine And.intro ?_ ?_; · first | exact ⟨by omega, .inr trivial, by omega, by omega⟩ | exact ⟨rfl, by simp [AV.sz, AV.szs, AV.memOK]⟩ | exact ⟨by simp; try omega, .inr trivial, by omega, by omega⟩) | refine peel ?_)
                 refine hK _ _ _ ?_; clear hK K
                 refine awp_cnd (fun hb => ?_) (fun hb => ?_)
                 ·skip
                  refine awp_reg zs [6] fun K hK => ?_
                  try simp only [go_sem, seval]
                  repeat (first | (refine And.intro ?_ ?_; · first | exact ⟨by omega, .inr trivial, by omega, by omega⟩ | exact ⟨rfl, by simp [AV.sz, AV.szs, AV.memOK]⟩ | exact ⟨by simp; try omega, .inr trivial, by omega, by omega⟩) | refine peel ?_)
                  refine hK _ _ _ ?_; clear hK K
                  refine awp_ret ?_
                  try simp only [go_sem, seval]
                  first | exact ⟨_, rfl, hl6, .kl trivial⟩ | exact ⟨_, rfl, hlow7, .kl trivial⟩
                 ·skip
                  have hlo0 : lo ≠ 0 := by have := of_decide_eq_false hb; omega
                  obtain ⟨x, xs, hops⟩ : ∃ x xs, (cmdT a).ops = x :: xs := by
                    cases h : (cmdT a).ops with
                    | nil => rw [h] at hLo; exact absurd hLo hlo0
                    | cons x xs => exact ⟨x, xs, rfl⟩
                  rw [hops] at hoo
                  obtain ⟨q, v, l, ka, kb, kd, m, hlm, rfl, g1, g2, g3, rfl⟩ := own_ops_head hoo
                  have hq1 := own_sl_sz g1
                  have hq2 := own_sl_sz g2
                  have hq3 := own_sl_mem g1
                  have hq4 := own_sl_mem g2
                  refine awp_skip ?_
                  try simp only [go_sem, seval]
                  refine hK3 _ _ _ ?_
                  first | clear hK3 K3 | skip
                  refine awp_reg1 zs [7, 9] fun K hK => ?_
                  try simp only [go_sem, seval, cmdX, hq1, hq2, qz, hko]
                  repeat (first | (refine And.intro ?_ ?_; · first | exact ⟨by omega, .inr trivial, by omega, by omega⟩ | exact ⟨rfl, by simp [AV.sz, AV.szs, AV.memOK]⟩ | exact ⟨by simp; try omega, .inr trivial, by omega, by omega⟩) | refine peel ?_)
                  refine hK _ _ _ ?_; clear hK K
                  try simp only [go_sem, seval]
                  trace_state
                  refine ⟨{ cmdT a with ops := { x with delta := IntKind.i64.wrap (x.delta + 1) } :: xs }, cmdX (cmdT a) (cmdT a).q.whr (.osl kr vr 0 lr) (.osl kc vc 0 lc) (.osl ko vo 0 lo) (.osl kf vf 0 lf) (.osl kt vt 0 lt) (.osl km vm 0 lm) (.osl kp vp 0 lp) (.osl kk vk 0 lk), by (repeat rw [if_neg (by omega)]); exact q2, by rw [if_neg (by omega)]; exact qz, rfl, rfl, by simp [cmdX, AV.sz, AV.szs], ?_, fun e => ?_, ⟨zf.1, zf.2, zf.3, by have := zf.4; rw [hops] at this; exact this, fun y hy => by have := zf.5; rw [hops] at this; rcases List.mem_cons.1 hy with rfl | h; exact this x (by simp); exact this y (by simp [h]), zf.6, zf.7, zf.8, zf.9, zf.10, zf.11⟩, fun k hk => by (repeat rw [if_neg (by omega)]); exact hl6 k hk⟩
                  · rw [show cmdAV { cmdT a with ops := { x with delta := IntKind.i64.wrap (x.delta + 1) } :: xs } = cmdX (cmdT a) (cmdT a).q.whr (bys (cmdT a).row) (.sl 4 ((cmdT a).conds.map condAV)) (.sl 6 (opAV { x with delta := IntKind.i64.wrap (x.delta + 1) } :: xs.map opAV)) (bys (cmdT a).q.frm) (bys (cmdT a).q.to) (numsAV (cmdT a).q.fams) (bys (cmdT a).q.pre) (bys (cmdT a).q.token) from rfl]
                    exact frz_cmdX (cmdT a) (cmdT a).q.whr (hco _ (.osl ko vo 0 lo) _ (fun j h1 h2 h3 => by have := hp.lo j h1; rw [Heap.put_ne _ _ h2]) (.osl (Heap.put_same _ _ _) (Nat.zero_le _) (by simp; simp at hlo; omega) (by
                      rw [List.drop_zero, hlm, List.take_succ_cons]
                      have fr : ∀ j ∈ (ka ++ kb) ++ kd, (H6.put ko (some (.arr vo 6 (.agg [.int .i64 x.kind, .int .i64 x.fam, q, .int .i64 x.ts, v, .int .i64 (IntKind.i64.wrap (x.delta + 1))] :: l)))) j = H6 j := fun j hj => Heap.put_ne _ _ (fun (e : j = ko) => hno (e ▸ hj))
                      exact .cons (.agg (.cons (.kl trivial) (.cons (.kl trivial) (.cons ((g1.frame fun j hj => fr j (by simp [hj])).frz fun _ _ => Nat.zero_le _) (.cons (.kl trivial) (.cons ((g2.frame fun j hj => fr j (by simp [hj])).frz fun _ _ => Nat.zero_le _) (.cons (.kl trivial) .nil))))))) ((g3.frame fun j hj => fr j (by simp [hj])).frz fun _ _ => Nat.zero_le _))))
                  · have h1 := congrArg CmdE.ops e
                    rw [hops] at h1
                    have h2 := (List.cons.inj h1).1
                    exact wrap_succ_ne _ (congrArg OpE.delta h2)
    rintro T7 H7 n7 ⟨e', v', rfl, q3, q4, ha, hm, hs, hf, hne, hfit, hlow7⟩
    have hsv : ∀ g, strip g v' = v' := fun g => by cases v' <;> first | rfl | (simp [AV.isAgg] at ha)
    have hd1 : decide (cmdT a = e') = false := by simp; exact fun e => hne e.symm
    have hd2 : decide (e' = cmdT a) = false := by simp; exact hne
    refine awp_reg zs [6] fun K hK => ?_
    try simp only [go_sem, seval, hca, cmdAV_sz, q3, q4, ha, hs]
    repeat (first | (refine And.intro ?_ ?_; · first | exact ⟨by omega, .inr trivial, by omega, by omega⟩ | exact ⟨rfl, by simp [AV.sz, AV.szs, AV.memOK]⟩ | exact ⟨by simp; try omega, .inr trivial, by omega, by omega⟩) | refine peel ?_)
    refine callK_use Tryz.func31 rfl rfl rfl ((Ret.lend (r := .bool (decide (cmdT a = e'))) trivial (.cons (.kl (kl_cmdAV _ 0)) (.cons hf .nil)) (c_order_Same (cmdT a) e' (cmdT_fits a) _ _))) ?_
    try simp only [go_sem, seval, hca, cmdAV_sz, q3, q4, ha, hs, hd1]
    repeat (first | (refine And.intro ?_ ?_; · first | exact ⟨by omega, .inr trivial, by omega, by omega⟩ | exact ⟨rfl, by simp [AV.sz, AV.szs, AV.memOK]⟩ | exact ⟨by simp; try omega, .inr trivial, by omega, by omega⟩) | refine peel ?_)
    refine callG_use Tryz.func31 rfl rfl rfl (fun _ => (Ret.lend (r := .bool (decide (e' = cmdT a))) trivial (.cons hf (.cons (.kl (kl_cmdAV _ 0)) .nil)) (c_order_Same e' (cmdT a) hfit _ _))) ?_
    try simp only [go_sem, seval, hd2]
    repeat (first | (refine And.intro ?_ ?_; · first | exact ⟨by omega, .inr trivial, by omega, by omega⟩ | exact ⟨rfl, by simp [AV.sz, AV.szs, AV.memOK]⟩ | exact ⟨by simp; try omega, .inr trivial, by omega, by omega⟩) | refine peel ?_)
    refine hK _ _ _ ?_; clear hK K
    refine awp_ret ?_
    try simp only [go_sem, seval]
    first | exact ⟨_, rfl, hl6, .kl trivial⟩ | exact ⟨_, rfl, hlow7, .kl trivial⟩
end Go.Proofs.YtifnhpmeoogedaaGreatDoor