/- Own layer: the walk through what a law makes of a command: all of it is its own. Of the program; no condition. -/
import Derived.Test.YtifnhpmeoogedaaGreatDoorPJ
import Derived.Test.YtifnhpmeoogedaaGreatDoorPG
import Derived.Test.YtifnhpmeoogedaaGreatDoorPH
import GoSem.Extern.BytealgIndexByte
import Derived.Test.YtifnhpmeoogedaaGreatDoorPE
set_option linter.unusedSimpArgs false
set_option linter.unusedVariables false
namespace Go.Proofs.YtifnhpmeoogedaaGreatDoor
open Go Go.Sx Go.Rt Go.Proofs Tryz
theorem cmdX_of (c : CmdE) : Zh c = cmdX c c.q.whr (bys c.row) (.sl 4 (c.conds.map Zt)) (.sl 6 (c.ops.map opAV)) (bys c.q.frm) (bys c.q.to) (Zr c.q.fams) (bys c.q.pre) (bys c.q.token) := rfl
set_option maxRecDepth 100000 in
set_option maxHeartbeats 3200000 in
theorem x_law14_command (c : CmdE) (H : Heap) (n : Nat) : Zx prog 14 [Zh c] H n (CmdAns H n (cmdT c)) := by
 have r1 : (0 : Nat) = 0 := rfl
 have r2 := r1
 have r3 := r1
 have hmk : (5000 : Int).toNat = 5000 := rfl
 obtain ⟨rl, hrl⟩ : ∃ l, l = (c.row.take 5000).length := ⟨_, rfl⟩
 rw [cmdX_of c]
 refine Zc func14 rfl ntmps14 (congrArg Array.toList results14) (by simp) ?_
 simp only [go_sem]
 refine Za zs [1, 2] fun K hK => ?_
 try simp only [go_sem, seval, cmdX, Zr]
 apply hK; clear hK K
 refine Za zs [1, 2] fun K hK => ?_
 try simp only [go_sem, seval]
 refine Zg func25 rfl rfl rfl ((YS c.row 5000 (by decide) (by decide) _ _)) ?_
 try simp only [go_sem, seval, hmk]
 apply hK; clear hK K
 refine Za zs [1, 2, 3] fun K hK => ?_
 try simp only [go_sem, seval]
 apply hK; clear hK K
 refine Zb fun K1 hK1 => ?_
 refine Za zs [1, 2, 3, 4] fun K hK => ?_
 try simp only [go_sem, seval]
 apply hK; clear hK K
 refine Zk ?_
 refine Yy 3 4 rfl ?_
 refine Y2 [1, 2, 3, 4] ?_
 simp only [go_sem, seval]
 refine Zy (fun T' H' n' => ∃ (i ver : Nat) (els : List AV) (ks1 ks2 : List Nat), i ≤ c.conds.length ∧ i ≤ 20 ∧ els.length = i ∧ T' = tl [(1, .loc n 0 0 0 []), (2, .loc (n + 1) 0 0 0 []), (3, .osl (n + 3) ver 0 i), (4, .int .i64 i)] ∧ H' n = some (.arr 0 17 [cmdX c c.q.whr (.osl (n + 2) 72 0 rl) (.sl 4 (c.conds.map Zt)) (.sl 6 (c.ops.map opAV)) (bys c.q.frm) (bys c.q.to) (Zr c.q.fams) (bys c.q.pre) (bys c.q.token)]) ∧ H' (n + 3) = some (.arr ver 4 els) ∧ H' (n + 1) = some (.arr 0 17 [cmdZ]) ∧ Pile (n + 2) [.osl (n + 2) 72 0 rl] [bys (c.row.take 5000)] ks1 H' (n + 3) ∧ Pile (n + 4) els (((c.conds.take i).map QA).map Zt) ks2 H' n' ∧ (∀ k, k < n → H' k = H k) ∧ n + 4 ≤ n') (fun T' _ _ => c.conds.length - iv (T' 4)) ?_ ?_
 ·skip
  subst hrl
  exact ⟨0, 0, [], [n + 2], [], by omega, by omega, rfl, rfl, by simp [Heap.put, cmdX, bys, Zr]; omega, Heap.put_same _ _ _, by simp [Heap.put]; rfl, ⟨.one (Wn (x := marks) (ver := 72) (by simp [Heap.put])), by simp, fun k hk => by simp at hk; omega⟩, Pile.nil _ _ _, fun k hk => by simp only [Heap.put_get]; (repeat rw [if_neg (by omega)]), by omega⟩
 intro T1 H1 n1
 rintro ⟨i, ver, els, ks1, ks2, hi, hi2, hel, rfl, r1, r2, hres, hp1, hp2, hlow, hnn⟩
 refine Zb fun K2 hK2 => ?_
 refine Za zs [1, 2, 3, 4, 23] fun K hK => ?_
 try simp only [go_sem, seval, r1, bys, List.length_map, cmdX, Zr]
 repeat refine peel ?_
 apply hK; clear hK K
 refine Zf ?_ ?_ <;> intro hb
 ·skip
  have hlt : i < c.conds.length ∧ i < 20 := by simp at hb; omega
  have hn1 : nth (c.conds.map Zt) i = Zt (c.conds.getD i default) := ZG Zt c.conds i hlt.1
  have htk := Qm c.conds hlt.1
  generalize c.conds.getD i default = x at *
  have hE : els.take i = els := List.take_of_length_le (by omega)
  have e1 : (n + 3 = n1) = False := by simp; omega
  have e2 : (n = n1) = False := by simp; omega
  have e3 : (n + 3 = n1 + 1) = False := by simp; omega
  have e4 : (n + 3 = n1 + 2) = False := by simp; omega
  have e5 : (n + 3 = n1 + 1 + 1) = False := by simp; omega
  refine Zd ?_
  try simp only [go_sem, seval, bys, cmdX, Zr]
  apply hK2
  clear hK2 K2
  refine Zb fun K3 hK3 => ?_
  refine Zk ?_
  refine Za zs [1, 2, 3, 4, 5] fun K hK => ?_
  try simp only [go_sem, seval, r1, bys, List.length_map, cmdX, Zr, Int.toNat_natCast, hn1, Zt]
  repeat refine peel ?_
  apply hK; clear hK K
  refine Za zs [1, 2, 3, 4, 5] fun K hK => ?_
  try simp only [go_sem, seval, bys, cmdX, Zr]
  refine Zg func25 rfl rfl rfl ((YS x.qual 5000 (by decide) (by decide) _ _)) ?_
  try simp only [go_sem, seval, hmk]
  apply hK; clear hK K
  refine Za zs [1, 2, 3, 4, 5] fun K hK => ?_
  try simp only [go_sem, seval, bys, cmdX, Zr]
  refine Zg func25 rfl rfl rfl ((YS x.value 5000 (by decide) (by decide) _ _)) ?_
  try simp only [go_sem, seval, hmk]
  apply hK; clear hK K
  refine Zl zs [1, 2, 3, 4] fun K hK => ?_
  try simp only [go_sem, seval, r2, bys, cmdX, Zr, e1, e3, e4, hE]
  repeat (first | refine peel ?_ | (refine And.intro ?_ ?_; · first | exact ⟨by omega, .inr trivial, by omega, by omega⟩ | exact ⟨rfl, by simp [AV.sz, AV.szs, AV.memOK]⟩))
  apply hK; clear hK K
  try simp only [go_sem, seval, bys, cmdX, Zr]
  apply hK3
  clear hK3 K3
  refine Zl zs [1, 2, 3, 4] fun K hK => ?_
  try simp only [go_sem, seval, bys, cmdX, Zr]
  apply hK; clear hK K
  try simp only [go_sem, seval, r1, bys, cmdX, Zr]
  refine ⟨⟨i + 1, ver + 1, _, ks1, ks2 ++ [n1 + 1, n1 + 2], by omega, by omega, ?_, by rw [w1 (by omega)], ?_, rfl, ?_, ?_, ?_, fun k hk => ?_, by omega⟩, by rw [w1 (by omega)]; simp; omega⟩
  ·simp [hel]
  ·(repeat rw [if_neg (by omega)])
  ·(repeat rw [if_neg (by omega)]); exact hres
  ·exact hp1.on (fun k h1 h2 => by simp only [Heap.put_get]; repeat rw [if_neg (by omega)]) (by omega)
  ·rw [htk, List.map_append, List.map_append]
   exact hp2.add (fun k h1 h2 => by simp only [Heap.put_get]; repeat rw [if_neg (by omega)]) (own_cond (y1 := marks) (y2 := marks) (by simp only [Heap.put_get]; (repeat rw [if_neg (by omega)]); simp) (by simp only [Heap.put_get]; (repeat rw [if_neg (by omega)]); simp)) (by simp) (fun k hk => by simp at hk; omega) (by omega) (by omega)
  ·(repeat rw [if_neg (by omega)])
   exact hlow k hk
 have hw4 : IntKind.i64.wrap (((i + 4 : Nat) : Int) - 4) = i := by rw [w64 (by omega) (by omega)]; omega
 have hci : c.conds.take i = c.conds.take 20 := by
   rcases Nat.lt_or_ge i c.conds.length with h | h
   ·have : i = 20 := by simp [h] at hb; omega
    rw [this]
   ·rw [List.take_of_length_le h, List.take_of_length_le (by omega)]
 rw [hci] at hp2
 have hE : els.take i = els := List.take_of_length_le (by omega)
 refine Zz ?_
 try simp only [go_sem, seval, bys, cmdX, Zr]
 apply hK1
 refine Za zs [1, 2, 3] fun K hK => ?_
 try simp only [go_sem, seval, r2, hE]
 repeat (first | refine peel ?_ | refine ⟨by exact ⟨by omega, .inr trivial, by omega, by omega⟩, ?_⟩)
 apply hK; clear hK K
 have e1 : (n = n + 3) = False := by simp
 refine Za zs [1, 2] fun K hK => ?_
 try simp only [go_sem, seval, r1, bys, cmdX, Zr, hw4, Int.toNat_natCast, Option.getD_some, Option.getD_none, List.length_cons, List.length_nil]
 repeat (first | refine peel ?_ | refine ⟨by exact ⟨by omega, by omega, fun m h => h.elim⟩, ?_⟩)
 apply hK; clear hK K
 refine Yh (fun H' n' => ∃ vc ic ks, H' n = some (.arr 0 17 [cmdX c c.q.whr (.osl (n + 2) 72 0 rl) (.osl (n + 3) vc 0 ic) (.sl 6 (c.ops.map opAV)) (bys c.q.frm) (bys c.q.to) (Zr c.q.fams) (bys c.q.pre) (bys c.q.token)]) ∧ H' (n + 1) = some (.arr 0 17 [cmdZ]) ∧ Pile (n + 2) [.osl (n + 2) 72 0 rl, .osl (n + 3) vc 0 ic] [bys (c.row.take 5000), .sl 4 (((c.conds.take 20).map QA).map Zt)] ks H' n' ∧ (∀ k, k < n → H' k = H k) ∧ n + 4 ≤ n') ⟨ver + 1, i, _, Heap.put_same _ _ _, by simp only [Heap.put_get]; (repeat rw [if_neg (by omega)]); exact hres, by
   exact hp1.addList hp2 (by rw [Heap.put_ne _ _ (by omega)]; exact Heap.put_same _ _ _) hel.symm (fun k h1 h2 h3 => by simp only [Heap.put_get]; repeat rw [if_neg (by omega)]) (by omega) (by omega), fun k hk => by simp only [Heap.put_get]; (repeat rw [if_neg (by omega)]); exact hlow k hk, by omega⟩ fun H2 n2 ⟨vc, ic, ks, q1, hres, hp, qlow, qnn⟩ => ?_
 clear hlow hnn r1 r2 hK1 hK2 hb hw4 hi hi2 hp1 hp2 hE hci hel
 refine Za zs [1, 2, 6] fun K hK => ?_
 try simp only [go_sem, seval]
 apply hK; clear hK K
 refine Zb fun K4 hK4 => ?_
 refine Za zs [1, 2, 6, 7] fun K hK => ?_
 try simp only [go_sem, seval]
 apply hK; clear hK K
 refine Zk ?_
 refine Yy 6 6 rfl ?_
 refine Y2 [1, 2, 6, 7] ?_
 simp only [go_sem, seval]
 refine Zy (fun T' H' n' => ∃ (j v6 : Nat) (els : List AV) (ks2 : List Nat), j ≤ c.ops.length ∧ j ≤ 20 ∧ els.length = j ∧ T' = tl [(1, .loc n 0 0 0 []), (2, .loc (n + 1) 0 0 0 []), (6, .osl n2 v6 0 j), (7, .int .i64 j)] ∧ H' n = some (.arr 0 17 [cmdX c c.q.whr (.osl (n + 2) 72 0 rl) (.osl (n + 3) vc 0 ic) (.sl 6 (c.ops.map opAV)) (bys c.q.frm) (bys c.q.to) (Zr c.q.fams) (bys c.q.pre) (bys c.q.token)]) ∧ H' n2 = some (.arr v6 6 els) ∧ H' (n + 1) = some (.arr 0 17 [cmdZ]) ∧ Pile (n + 2) [.osl (n + 2) 72 0 rl, .osl (n + 3) vc 0 ic] [bys (c.row.take 5000), .sl 4 (((c.conds.take 20).map QA).map Zt)] ks H' n2 ∧ Pile (n2 + 1) els (((c.ops.take j).map opT).map opAV) ks2 H' n' ∧ (∀ k, k < n → H' k = H k) ∧ n2 + 1 ≤ n') (fun T' _ _ => c.ops.length - iv (T' 7)) ?_ ?_
 ·skip
  exact ⟨0, 0, [], [], by omega, by omega, rfl, rfl, by rw [Heap.put_ne _ _ (by omega)]; exact q1, Heap.put_same _ _ _, by rw [Heap.put_ne _ _ (by omega)]; exact hres, hp.on (fun k h1 h2 => Heap.put_ne _ _ (by omega)) (Nat.le_refl _), Pile.nil _ _ _, fun k hk => by rw [Heap.put_ne _ _ (by omega)]; exact qlow k hk, by omega⟩
 intro T1 H1 n1
 rintro ⟨j, v6, els, ks2, hj, hj2, hel, rfl, r1, r2, hres, hp1, hp2, qlow2, qnn2⟩
 refine Zb fun K5 hK5 => ?_
 refine Za zs [1, 2, 6, 7, 64] fun K hK => ?_
 try simp only [go_sem, seval, r1, bys, List.length_map, cmdX, Zr]
 repeat refine peel ?_
 apply hK; clear hK K
 refine Zf ?_ ?_ <;> intro hb
 ·skip
  have hlt : j < c.ops.length ∧ j < 20 := by simp at hb; omega
  have hn1 : nth (c.ops.map opAV) j = opAV (c.ops.getD j default) := ZG opAV c.ops j hlt.1
  have htk := Qm c.ops hlt.1
  generalize c.ops.getD j default = x at *
  have hE : els.take j = els := List.take_of_length_le (by omega)
  have e1 : (n2 = n1) = False := by simp; omega
  have e2 : (n = n1) = False := by simp; omega
  have e3 : (n2 = n1 + 1) = False := by simp; omega
  have e4 : (n2 = n1 + 2) = False := by simp; omega
  have e5 : (n2 = n1 + 1 + 1) = False := by simp; omega
  refine Zd ?_
  try simp only [go_sem, seval, bys, cmdX, Zr]
  apply hK5
  clear hK5 K5
  refine Zb fun K6 hK6 => ?_
  refine Zk ?_
  refine Za zs [1, 2, 6, 7, 8] fun K hK => ?_
  try simp only [go_sem, seval, r1, bys, List.length_map, cmdX, Zr, Int.toNat_natCast, hn1, opAV]
  repeat refine peel ?_
  apply hK; clear hK K
  refine Za zs [1, 2, 6, 7, 8] fun K hK => ?_
  try simp only [go_sem, seval, bys, cmdX, Zr]
  refine Zg func25 rfl rfl rfl ((YS x.qual 5000 (by decide) (by decide) _ _)) ?_
  try simp only [go_sem, seval, hmk]
  apply hK; clear hK K
  refine Za zs [1, 2, 6, 7, 8] fun K hK => ?_
  try simp only [go_sem, seval, bys, cmdX, Zr]
  refine Zg func25 rfl rfl rfl ((YS x.value 5000 (by decide) (by decide) _ _)) ?_
  try simp only [go_sem, seval, hmk]
  apply hK; clear hK K
  refine Zl zs [1, 2, 6, 7] fun K hK => ?_
  try simp only [go_sem, seval, r2, bys, cmdX, Zr, e1, e3, e4, hE]
  repeat (first | refine peel ?_ | (refine And.intro ?_ ?_; · first | exact ⟨by omega, .inr trivial, by omega, by omega⟩ | exact ⟨rfl, by simp [AV.sz, AV.szs, AV.memOK]⟩))
  apply hK; clear hK K
  try simp only [go_sem, seval, bys, cmdX, Zr]
  apply hK6
  clear hK6 K6
  refine Zl zs [1, 2, 6, 7] fun K hK => ?_
  try simp only [go_sem, seval, bys, cmdX, Zr]
  apply hK; clear hK K
  try simp only [go_sem, seval, r1, bys, cmdX, Zr]
  refine ⟨⟨j + 1, v6 + 1, _, ks2 ++ [n1 + 1, n1 + 2], by omega, by omega, ?_, by rw [w1 (by omega)], ?_, rfl, ?_, ?_, ?_, fun k hk => ?_, by omega⟩, by rw [w1 (by omega)]; simp; omega⟩
  ·simp [hel]
  ·(repeat rw [if_neg (by omega)])
  ·(repeat rw [if_neg (by omega)]); exact hres
  ·exact hp1.on (fun k h1 h2 => by simp only [Heap.put_get]; repeat rw [if_neg (by omega)]) (by omega)
  ·rw [htk, List.map_append, List.map_append]
   exact hp2.add (fun k h1 h2 => by simp only [Heap.put_get]; repeat rw [if_neg (by omega)]) (own_op (y1 := marks) (y2 := marks) (by simp only [Heap.put_get]; (repeat rw [if_neg (by omega)]); simp) (by simp only [Heap.put_get]; (repeat rw [if_neg (by omega)]); simp)) (by simp) (fun k hk => by simp at hk; omega) (by omega) (by omega)
  ·(repeat rw [if_neg (by omega)])
   exact qlow2 k hk
 have hw4 : IntKind.i64.wrap (((j + 4 : Nat) : Int) - 4) = j := by rw [w64 (by omega) (by omega)]; omega
 have hci : c.ops.take j = c.ops.take 20 := by
   rcases Nat.lt_or_ge j c.ops.length with h | h
   ·have : j = 20 := by simp [h] at hb; omega
    rw [this]
   ·rw [List.take_of_length_le h, List.take_of_length_le (by omega)]
 rw [hci] at hp2
 have hE : els.take j = els := List.take_of_length_le (by omega)
 refine Zz ?_
 try simp only [go_sem, seval, bys, cmdX, Zr]
 apply hK4
 refine Za zs [1, 2, 6] fun K hK => ?_
 try simp only [go_sem, seval, r2, hE]
 repeat (first | refine peel ?_ | refine ⟨by exact ⟨by omega, .inr trivial, by omega, by omega⟩, ?_⟩)
 apply hK; clear hK K
 have e1 : (n = n2) = False := by simp; omega
 refine Za zs [1, 2] fun K hK => ?_
 try simp only [go_sem, seval, r1, bys, cmdX, Zr, e1, hw4, Int.toNat_natCast, Option.getD_some, Option.getD_none, List.length_cons, List.length_nil]
 repeat (first | refine peel ?_ | refine ⟨by exact ⟨by omega, by omega, fun m h => h.elim⟩, ?_⟩)
 apply hK; clear hK K
 refine Yh (fun H' n' => ∃ vo io ks, H' n = some (.arr 0 17 [cmdX c c.q.whr (.osl (n + 2) 72 0 rl) (.osl (n + 3) vc 0 ic) (.osl n2 vo 0 io) (bys c.q.frm) (bys c.q.to) (Zr c.q.fams) (bys c.q.pre) (bys c.q.token)]) ∧ H' (n + 1) = some (.arr 0 17 [cmdZ]) ∧ Pile (n + 2) [.osl (n + 2) 72 0 rl, .osl (n + 3) vc 0 ic, .osl n2 vo 0 io] [bys (c.row.take 5000), .sl 4 (((c.conds.take 20).map QA).map Zt), .sl 6 (((c.ops.take 20).map opT).map opAV)] ks H' n' ∧ (∀ k, k < n → H' k = H k) ∧ n2 + 1 ≤ n') ⟨v6 + 1, j, _, Heap.put_same _ _ _, by simp only [Heap.put_get]; (repeat rw [if_neg (by omega)]); exact hres, by
   exact hp1.addList hp2 (by rw [Heap.put_ne _ _ (by omega)]; exact Heap.put_same _ _ _) hel.symm (fun k h1 h2 h3 => by simp only [Heap.put_get]; repeat rw [if_neg (by omega)]) (by omega) (by omega), fun k hk => by simp only [Heap.put_get]; (repeat rw [if_neg (by omega)]); exact qlow2 k hk, by omega⟩ fun H3 n3 ⟨vo, io, ks3, r1, hres, hp3, qlow3, qnn3⟩ => ?_
 clear qlow2 qnn2 r2 hb hw4 hj hj2 hp1 hp2 hE hci hel
 have e1 : (n = n3) = False := by simp; omega
 have e2 : (n = n3 + 1) = False := by simp; omega
 have e3 : (n = n3 + 2) = False := by simp; omega
 have e6 : (n = n3 + 1 + 1) = False := by simp; omega
 have e7 : (n = n3 + 1 + 1 + 1) = False := by simp; omega
 have e8 : (n = n3 + 3) = False := by simp; omega
 refine Za zs [1, 2] fun K hK => ?_
 try simp only [go_sem, seval, r1, bys, cmdX, Zr]
 refine Zg func25 rfl rfl rfl ((YS c.q.frm 5000 (by decide) (by decide) _ _)) ?_
 try simp only [go_sem, seval, r1, bys, cmdX, Zr, hmk, e1]
 apply hK; clear hK K
 refine Za zs [1, 2] fun K hK => ?_
 try simp only [go_sem, seval]
 refine Zg func25 rfl rfl rfl ((YS c.q.to 5000 (by decide) (by decide) _ _)) ?_
 try simp only [go_sem, seval, hmk, e2]
 apply hK; clear hK K
 refine Za zs [1, 2] fun K hK => ?_
 try simp only [go_sem, seval]
 refine Zg func25 rfl rfl rfl ((YS c.q.pre 5000 (by decide) (by decide) _ _)) ?_
 try simp only [go_sem, seval, hmk, e3]
 apply hK; clear hK K
 refine Za zs [1, 2] fun K hK => ?_
 try simp only [go_sem, seval]
 refine Zg func25 rfl rfl rfl ((YS c.q.token 5000 (by decide) (by decide) _ _)) ?_
 try simp only [go_sem, seval, hmk, e7]
 apply hK; clear hK K
 refine Yh (fun H' n' => ∃ k1 k2 k3 k4 l1 l2 l3 l4 ks, H' n = some (.arr 0 17 [cmdX c c.q.whr (.osl (n + 2) 72 0 rl) (.osl (n + 3) vc 0 ic) (.osl n2 vo 0 io) (.osl k1 72 0 l1) (.osl k2 72 0 l2) (Zr c.q.fams) (.osl k3 72 0 l3) (.osl k4 72 0 l4)]) ∧ H' (n + 1) = some (.arr 0 17 [cmdZ]) ∧ Pile (n + 2) [.osl (n + 2) 72 0 rl, .osl (n + 3) vc 0 ic, .osl n2 vo 0 io, .osl k1 72 0 l1, .osl k2 72 0 l2, .osl k3 72 0 l3, .osl k4 72 0 l4] [bys (c.row.take 5000), .sl 4 (((c.conds.take 20).map QA).map Zt), .sl 6 (((c.ops.take 20).map opT).map opAV), bys (c.q.frm.take 5000), bys (c.q.to.take 5000), bys (c.q.pre.take 5000), bys (c.q.token.take 5000)] ks H' n' ∧ (∀ k, k < n → H' k = H k) ∧ n2 + 1 ≤ n') ⟨_, _, _, _, _, _, _, _, _, Heap.put_same _ _ _, by simp only [Heap.put_get]; (repeat rw [if_neg (by omega)]); exact hres, by
   exact (((((hp3.on (fun k h1 h2 => by simp only [Heap.put_get]; repeat rw [if_neg (by omega)]) (Nat.le_refl _)).add1 (Wn (x := marks) (by simp only [Heap.put_get]; (repeat rw [if_neg (by omega)]); simp)) (by omega)).add1 (Wn (x := marks) (by simp only [Heap.put_get]; (repeat rw [if_neg (by omega)]); simp)) (by omega)).add1 (Wn (x := marks) (by simp only [Heap.put_get]; (repeat rw [if_neg (by omega)]); simp)) (by omega)).add1 (Wn (x := marks) (by simp only [Heap.put_get]; (repeat rw [if_neg (by omega)]); simp)) (by omega)), fun k hk => by simp only [Heap.put_get]; (repeat rw [if_neg (by omega)]); exact qlow3 k hk, by omega⟩ fun H4 n4 ⟨k1, k2, k3, k4, l1, l2, l3, l4, ks4, r1, hres, hp4, qlow4, qnn4⟩ => ?_
 refine YB [1, 2] (fun T' H' n' => T' = tl [(1, .loc n 0 0 0 []), (2, .loc (n + 1) 0 0 0 [])] ∧ H' n = some (.arr 0 17 [cmdX c (c.q.whr.take 5000) (.osl (n + 2) 72 0 rl) (.osl (n + 3) vc 0 ic) (.osl n2 vo 0 io) (.osl k1 72 0 l1) (.osl k2 72 0 l2) (Zr c.q.fams) (.osl k3 72 0 l3) (.osl k4 72 0 l4)]) ∧ H' (n + 1) = some (.arr 0 17 [cmdZ]) ∧ Pile (n + 2) [.osl (n + 2) 72 0 rl, .osl (n + 3) vc 0 ic, .osl n2 vo 0 io, .osl k1 72 0 l1, .osl k2 72 0 l2, .osl k3 72 0 l3, .osl k4 72 0 l4] [bys (c.row.take 5000), .sl 4 (((c.conds.take 20).map QA).map Zt), .sl 6 (((c.ops.take 20).map opT).map opAV), bys (c.q.frm.take 5000), bys (c.q.to.take 5000), bys (c.q.pre.take 5000), bys (c.q.token.take 5000)] ks4 H' n' ∧ (∀ k, k < n → H' k = H k) ∧ n2 + 1 ≤ n') ?_ ?_
 ·skip
  refine Za zs [1, 2, 125] fun K hK => ?_
  try simp only [go_sem, seval, r1, bys, cmdX, Zr]
  apply hK; clear hK K
  refine Zf ?_ ?_ <;> intro hb
  ·skip
   have hgt : 5000 < c.q.whr.length := by have := of_decide_eq_true hb; omega
   refine Zl zs [1, 2] fun K hK => ?_
   try simp only [go_sem, seval, r1, bys, cmdX, Zr, hmk, Option.getD_some, Option.getD_none]
   repeat refine peel ?_
   apply hK; clear hK K
   try simp only [go_sem, seval, bys, cmdX, Zr]
   exact ⟨hres, hp4.on (fun k h1 h2 => Heap.put_ne _ _ (by omega)) (Nat.le_refl _), fun k hk => by rw [if_neg (by omega)]; exact qlow4 k hk, qnn4⟩
  refine Zd ?_
  try simp only [go_sem, seval, r1, bys, cmdX, Zr]
  (rw [List.take_of_length_le (l := c.q.whr) (i := 5000) (by have := of_decide_eq_false hb; omega)]; exact ⟨rfl, hres, hp4, qlow4, qnn4⟩)
 rintro T5 H5 n5 ⟨rfl, hc5, hres, hp5, qlow5, qnn5⟩
 refine Za zs [1, 2, 9] fun K hK => ?_
 try simp only [go_sem, seval]
 apply hK; clear hK K
 refine Zb fun K7 hK7 => ?_
 refine Za zs [1, 2, 9, 10] fun K hK => ?_
 try simp only [go_sem, seval]
 apply hK; clear hK K
 refine Zk ?_
 refine Yy 9 1 rfl ?_
 refine Y2 [1, 2, 9, 10] ?_
 simp only [go_sem, seval]
 refine Zy (fun T' H' n' => ∃ (j v6 : Nat), j ≤ c.q.fams.length ∧ j ≤ 20 ∧ T' = tl [(1, .loc n 0 0 0 []), (2, .loc (n + 1) 0 0 0 []), (9, .osl n5 v6 0 j), (10, .int .i64 j)] ∧ H' n = some (.arr 0 17 [cmdX c (c.q.whr.take 5000) (.osl (n + 2) 72 0 rl) (.osl (n + 3) vc 0 ic) (.osl n2 vo 0 io) (.osl k1 72 0 l1) (.osl k2 72 0 l2) (Zr c.q.fams) (.osl k3 72 0 l3) (.osl k4 72 0 l4)]) ∧ H' n5 = some (.arr v6 1 ((c.q.fams.take j).map fun x => .int .i64 x)) ∧ H' (n + 1) = some (.arr 0 17 [cmdZ]) ∧ Pile (n + 2) [.osl (n + 2) 72 0 rl, .osl (n + 3) vc 0 ic, .osl n2 vo 0 io, .osl k1 72 0 l1, .osl k2 72 0 l2, .osl k3 72 0 l3, .osl k4 72 0 l4] [bys (c.row.take 5000), .sl 4 (((c.conds.take 20).map QA).map Zt), .sl 6 (((c.ops.take 20).map opT).map opAV), bys (c.q.frm.take 5000), bys (c.q.to.take 5000), bys (c.q.pre.take 5000), bys (c.q.token.take 5000)] ks4 H' n5 ∧ (∀ k, k < n → H' k = H k) ∧ n5 + 1 ≤ n') (fun T' _ _ => c.q.fams.length - iv (T' 10)) ?_ ?_
 ·skip
  exact ⟨0, 0, by omega, by omega, rfl, by rw [Heap.put_ne _ _ (by omega)]; exact hc5, by rw [Heap.put_same]; rfl, by rw [Heap.put_ne _ _ (by omega)]; exact hres, hp5.on (fun k h1 h2 => Heap.put_ne _ _ (by omega)) (Nat.le_refl _), fun k hk => by rw [Heap.put_ne _ _ (by omega)]; exact qlow5 k hk, by omega⟩
 intro T1 H1 n1
 rintro ⟨j, v6, hj, hj2, rfl, r1, r2, hres, hp6, qlow6, qnn6⟩
 refine Zb fun K8 hK8 => ?_
 refine Za zs [1, 2, 9, 10, 141] fun K hK => ?_
 try simp only [go_sem, seval, r1, bys, List.length_map, cmdX, Zr]
 repeat refine peel ?_
 apply hK; clear hK K
 refine Zf ?_ ?_ <;> intro hb
 ·skip
  have hlt : j < c.q.fams.length ∧ j < 20 := by simp at hb; omega
  have hn1 : nth (c.q.fams.map fun x : Int => (.int .i64 x : AV)) j = .int .i64 (c.q.fams.getD j default) := ZG (fun x : Int => (.int .i64 x : AV)) c.q.fams j hlt.1
  have htk := Qm c.q.fams hlt.1
  generalize c.q.fams.getD j default = x at *
  have e3 : (n = n5) = False := by simp; omega
  refine Zd ?_
  try simp only [go_sem, seval, bys, cmdX, Zr]
  apply hK8
  clear hK8 K8
  refine Zb fun K9 hK9 => ?_
  refine Zk ?_
  refine Zl zs [1, 2, 9, 10] fun K hK => ?_
  try simp only [go_sem, seval, r1, r2, bys, List.length_map, cmdX, Zr, Int.toNat_natCast, hn1]
  repeat (first | refine peel ?_ | (refine And.intro ?_ ?_; · first | exact ⟨rfl, by simp [AV.sz, AV.szs, AV.memOK]⟩ | exact ⟨by simp; try omega, .inr trivial, by omega, by omega⟩))
  apply hK; clear hK K
  try simp only [go_sem, seval, bys, cmdX, Zr]
  apply hK9
  clear hK9 K9
  refine Zl zs [1, 2, 9, 10] fun K hK => ?_
  try simp only [go_sem, seval, bys, cmdX, Zr]
  apply hK; clear hK K
  try simp only [go_sem, seval, r1, bys, cmdX, Zr]
  refine ⟨⟨j + 1, v6 + 1, by omega, by omega, by rw [w1 (by omega)], ?_, ?_, ?_, ?_, fun k hk => ?_, by omega⟩, by rw [w1 (by omega)]; simp; omega⟩
  ·simp [e3, cmdX, Zr]
  ·rw [htk, List.map_append, List.take_of_length_le (by simp; omega)]; rfl
  ·(repeat rw [if_neg (by omega)]); exact hres
  ·exact hp6.on (fun k h1 h2 => by simp only [Heap.put_get]; repeat rw [if_neg (by omega)]) (Nat.le_refl _)
  ·(repeat rw [if_neg (by omega)])
   exact qlow6 k hk
 have hw5 : IntKind.i64.wrap (((j + 5 : Nat) : Int) - 5) = j := by rw [w64 (by omega) (by omega)]; omega
 have hci : c.q.fams.take j = c.q.fams.take 20 := by
   rcases Nat.lt_or_ge j c.q.fams.length with h | h
   ·have : j = 20 := by simp [h] at hb; omega
    rw [this]
   ·rw [List.take_of_length_le h, List.take_of_length_le (by omega)]
 have hEl : ((c.q.fams.take 20).map fun x : Int => (.int .i64 x : AV)).length = j := by rw [← hci]; simp; omega
 have hE : List.take j (List.map (fun x : Int => (.int .i64 x : AV)) (List.take j c.q.fams)) = (c.q.fams.take 20).map fun x : Int => (.int .i64 x : AV) := by rw [hci, List.take_of_length_le (by rw [hEl]; exact Nat.le_refl _)]
 refine Zz ?_
 try simp only [go_sem, seval, bys, cmdX, Zr]
 apply hK7
 refine Za zs [1, 2, 9] fun K hK => ?_
 try simp only [go_sem, seval, r2, List.length_map, hE]
 repeat (first | refine peel ?_ | refine ⟨by exact ⟨by simp; try omega, .inr trivial, by omega, by omega⟩, ?_⟩)
 apply hK; clear hK K
 have e3 : (n = n5) = False := by simp; omega
 refine Za zs [1, 2] fun K hK => ?_
 try simp only [go_sem, seval, r1, cmdX, Zr, e3, hw5, Int.toNat_natCast, Option.getD_some, Option.getD_none, List.length_cons, List.length_nil]
 repeat (first | refine peel ?_ | refine ⟨by exact ⟨by omega, by omega, fun m h => h.elim⟩, ?_⟩)
 apply hK; clear hK K
 have e4 : (n + 1 = n5) = False := by simp; omega
 refine Za zs [2] fun K hK => ?_
 try simp only [go_sem, seval, hres, cmdZ, e4]
 apply hK; clear hK K
 refine Ze ?_
 try simp only [go_sem, seval]
 refine ⟨_, _, _, _, _, _, _, _, _, _, _, _, _, _, _, _, _, _, _, _, _, _, _, _, _, rfl, hp6.addList (kl := n5) (els := (c.q.fams.take 20).map fun x => .int .i64 x) (ks2 := []) ⟨OwnL.nks _ (fun x hx => by obtain ⟨y, _, rfl⟩ := List.mem_map.1 hx; trivial), List.nodup_nil, fun k h => by simp at h⟩ (by rw [Heap.put_ne _ _ (by omega), Heap.put_ne _ _ (by omega)]; exact Heap.put_same _ _ _) hEl.symm (fun k h1 h2 h3 => by rw [Heap.put_ne _ _ (by omega), Heap.put_ne _ _ (by omega), Heap.put_ne _ _ (by omega)]) (by omega) (by omega), fun k hk => by rw [Heap.put_ne _ _ (by omega), Heap.put_ne _ _ (by omega), Heap.put_ne _ _ (by omega)]; exact qlow6 k hk, by omega⟩
theorem o_law14_command (c : CmdE) (H : Heap) (n : Nat) : Zx prog 14 [Zh c] H n (OAns H n (Zh (cmdT c))) := (x_law14_command c H n).mono fun _ _ _ h => h.oans
theorem UE (c : CmdE) (H : Heap) (n : Nat) : Ret prog 14 [Zh c] H n (Zh (cmdT c)) H n := OAns.fin (o_law14_command c H n)
end Go.Proofs.YtifnhpmeoogedaaGreatDoor
namespace Go.Rt
open Go Go.Sx
def Rds {α : Type} (rd : List UInt8 → Nat → Option (α × Nat)) (e : List UInt8) (x : α) : Prop :=
 ∀ b p v, p ≤ b.length → b.drop p = e ++ v → rd b p = some (x, p + e.length)
theorem dadv {b : List UInt8} {p : Nat} {e v : List UInt8} (hp : p ≤ b.length) (h : b.drop p = e ++ v) : p + e.length ≤ b.length ∧ b.drop (p + e.length) = v := by
 have h1 := congrArg List.length h
 rw [List.length_drop, List.length_append] at h1
 refine ⟨by omega, ?_⟩
 have h2 := congrArg (List.drop e.length) h
 rw [List.drop_drop, List.drop_left] at h2
 exact h2
theorem dget {b : List UInt8} {p : Nat} {c : UInt8} {v : List UInt8} (h : b.drop p = c :: v) : b.getD p 0 = c := by
 have h2 : (b.drop p)[0]? = some c := by rw [h]; rfl
 rw [List.getElem?_drop, Nat.add_zero] at h2
 simp [List.getD, h2]
theorem rds_byte (c : UInt8) : Rds Xw [c] (c.toNat : Int) := fun b p v hp h => by
 have h1 := (dadv hp h).1
 simp only [List.length_cons, List.length_nil] at h1
 rw [Xw, if_neg (by omega), dget (show b.drop p = c :: v from h)]; rfl
theorem ruL_B : ∀ (f : Nat) (b : List UInt8) (p v a : Nat) (w : List UInt8), f ≤ 10 → 0 < f → p + (10 - f) ≤ b.length → b.drop (p + (10 - f)) = Zm v ++ w → v * 2 ^ (7 * (10 - f)) < 18446744073709551616 → (0 < 10 - f → 0 < v) →
   ruL b p f a = (a + v * 2 ^ (7 * (10 - f)), p + (10 - f) + (Zm v).length, 0)
 | 0, _, _, _, _, _, _, h, _, _, _, _ => absurd h (Nat.lt_irrefl 0)
 | f + 1, b, p, v, a, w, hf, _, hp, hd, hm, hz => by
   have e1 : 10 - (f + 1) = 9 - f := by omega
   rw [e1] at hp hd hm hz ⊢
   obtain ⟨l1, d1⟩ := dadv hp hd
   have hpos := uintB_pos v
   unfold ruL
   rw [if_neg (by omega)]
   by_cases hv : v < 128
   ·have hu := WT hv
    rw [hu] at hd ⊢
    have ht : (UInt8.ofNat v).toNat = v := by simp; omega
    rw [dget hd, ht, if_neg, if_pos hv, if_neg (by rintro ⟨g1, g2⟩; have := hz g2; omega), Nat.mod_eq_of_lt hv]
    ·rfl
    ·rintro ⟨h9, h1⟩
     rw [h9] at hm
     simp at hm; omega
   ·have hu := UH (by omega : 128 ≤ v)
    rw [hu] at hd ⊢
    have ht : (UInt8.ofNat (v % 128 + 128)).toNat = v % 128 + 128 := by simp; omega
    obtain ⟨l2, d2⟩ := dadv (e := [UInt8.ofNat (v % 128 + 128)]) (v := Zm (v / 128) ++ w) hp hd
    simp only [List.length_cons, List.length_nil] at l2 d2
    have hf0 : 0 < f := by
      rcases Nat.eq_zero_or_pos f with h | h
      ·subst h; simp at hm; omega
      ·exact h
    have e2 : p + (9 - f) + 1 = p + (10 - f) := by omega
    have e3 : 2 ^ (7 * (10 - f)) = 2 ^ (7 * (9 - f)) * 128 := by rw [show 7 * (10 - f) = 7 * (9 - f) + 7 by omega, Nat.pow_add]
    have e4 : v / 128 * 2 ^ (7 * (10 - f)) = 128 * (v / 128) * 2 ^ (7 * (9 - f)) := by rw [e3, Nat.mul_comm _ 128, ← Nat.mul_assoc, Nat.mul_comm (v / 128) 128]
    rw [dget hd, ht, if_neg, if_neg (by omega), ruL_B f b p (v / 128) _ w (by omega) hf0 (by omega) (by rw [← e2]; exact d2) ?_ (by omega)]
    ·rw [e4, show (v % 128 + 128) % 128 = v % 128 by omega, Nat.add_assoc, ← Nat.add_mul, Nat.add_comm (v % 128), Nat.div_add_mod]
     simp only [List.length_cons]
     exact Prod.ext rfl (Prod.ext (by show p + (10 - f) + _ = p + (9 - f) + (_ + 1); omega) rfl)
    ·rw [e4]
     exact Nat.lt_of_le_of_lt (Nat.mul_le_mul_right _ (Nat.mul_div_le v 128)) hm
    ·rintro ⟨h9, h1⟩; rw [h9] at hm; simp at hm; omega
theorem ruB_B {b : List UInt8} {p v : Nat} {w : List UInt8} (hv : v < 18446744073709551616) (hp : p ≤ b.length) (hd : b.drop p = Zm v ++ w) : ruB b p = (v, p + (Zm v).length, 0) := by
 unfold ruB
 rw [if_neg (by omega), ruL_B 10 b p v 0 w (by omega) (by omega) (by simpa using hp) (by simpa using hd) (by simpa using hv) (by omega)]
 simp
theorem rds_nat {v : Nat} (hv : v < 9223372036854775808) : Rds YD (Zm v) (v : Int) := fun b p w hp hd => by
 rw [YD, ruB_B (by omega) hp hd, if_neg (by simp), if_neg (by simp; omega)]
theorem VK {n : Int} (h0 : 0 ≤ n) (hn : n < 9223372036854775808) : Rds YD (Zm (u64 n)) n := by
 have e : u64 n = n.toNat := by unfold u64; omega
 have h := rds_nat (v := n.toNat) (by omega)
 rw [e]; rwa [Int.toNat_of_nonneg h0] at h
theorem Xv {l : List UInt8} (hl : l.length < 9223372036854775808) : Rds YH (Zp l) l := fun b p w hp hd => by
 unfold Zp at hd ⊢
 rw [List.append_assoc] at hd
 obtain ⟨l1, d1⟩ := dadv hp hd
 obtain ⟨l2, d2⟩ := dadv l1 d1
 have hr : rbB b p b.length = (l, p + (Zm l.length).length + l.length, 0) := by
   unfold rbB
   rw [if_neg (by omega), ruB_B (by omega) hp hd]
   simp only [ne_eq, not_true_eq_false, ↓reduceIte]
   rw [if_neg (by omega), if_neg (by omega), d1, List.take_left]
 rw [YH, hr, if_neg (by simp), List.length_append, Nat.add_assoc]
theorem byteI_toNat (n : Int) : ((ZU n).toNat : Int) = n % 256 := by
 unfold ZU
 simp; omega
theorem V8 {n : Int} (h0 : 0 ≤ n) (hn : n < 256) : Rds Xw [ZU n] n := by
 have h := rds_byte (ZU n)
 rwa [byteI_toNat, Int.emod_eq_of_lt h0 hn] at h
theorem eightB_be {n : Int} (h0 : -9223372036854775808 ≤ n) (hn : n < 9223372036854775808) : IntKind.i64.wrap (be8 (XJ n) : Int) = n := by
 have h : (be8 (XJ n) : Int) = n % 18446744073709551616 := by
   simp only [XJ, be8, List.map_cons, List.map_nil, List.foldl_cons, List.foldl_nil, Nat.zero_mul, Nat.zero_add, Int.natCast_add, Int.natCast_mul, byteI_toNat]
   omega
 rw [h]
 by_cases hs : 0 ≤ n
 ·rw [Int.emod_eq_of_lt hs (by omega), w64 (by omega) (by omega)]
 ·have e : n % 18446744073709551616 = n + 18446744073709551616 := by omega
  rw [e, IntKind.wrap_i64]
  omega
theorem rds_delta {n : Int} (h0 : -9223372036854775808 ≤ n) (hn : n < 9223372036854775808) : Rds Vj (XJ n) n := fun b p v hp hd => by
 obtain ⟨l1, d1⟩ := dadv hp hd
 have hl : (XJ n).length = 8 := rfl
 rw [Vj, if_neg (by omega), hd, ← hl, List.take_left, eightB_be h0 hn]
theorem rdMany_B {α : Type} {rd : List UInt8 → Nat → Option (α × Nat)} {enc : α → List UInt8} : ∀ (l : List α) (b : List UInt8) (p : Nat) (v : List UInt8) (acc : List α), (∀ x ∈ l, Rds rd (enc x) x) → p ≤ b.length → b.drop p = l.flatMap enc ++ v →
   Xe rd b l.length p acc = some (acc ++ l, p + (l.flatMap enc).length)
 | [], b, p, v, acc, _, _, _ => by simp [Xe]
 | x :: l, b, p, v, acc, h, hp, hd => by
   rw [List.flatMap_cons, List.append_assoc] at hd
   have h1 := h x (by simp) b p _ hp hd
   obtain ⟨l1, d1⟩ := dadv hp hd
   simp only [List.length_cons, Xe, h1, Option.bind_some]
   rw [rdMany_B l b _ v _ (fun y hy => h y (by simp [hy])) l1 d1, List.flatMap_cons, List.length_append]
   simp [Nat.add_assoc]
theorem flat_len {α : Type} {enc : α → List UInt8} (henc : ∀ x, 1 ≤ (enc x).length) : ∀ l : List α, l.length ≤ (l.flatMap enc).length
 | [] => by simp
 | x :: l => by
   have h1 := henc x
   have h2 := flat_len henc l
   rw [List.flatMap_cons, List.length_append, List.length_cons]
   omega
theorem rds_list {α : Type} {rd : List UInt8 → Nat → Option (α × Nat)} {enc : α → List UInt8} {l : List α} (h : ∀ x ∈ l, Rds rd (enc x) x) (henc : ∀ x, 1 ≤ (enc x).length) (hl : l.length < 9223372036854775808) : Rds (Yk rd) (Zm l.length ++ l.flatMap enc) l := fun b p v hp hd => by
 rw [List.append_assoc] at hd
 have h1 := rds_nat hl b p _ hp hd
 obtain ⟨l1, d1⟩ := dadv hp hd
 obtain ⟨l2, d2⟩ := dadv l1 d1
 have hf := flat_len henc l
 have hc : Vk b p = some (l.length, p + (Zm l.length).length) := by
   rw [Vk, h1, Option.bind_some, if_neg (by simp only [Int.toNat_natCast]; omega), Int.toNat_natCast]
 rw [Yk, hc, Option.bind_some, rdMany_B l b _ v [] h l1 d1, List.nil_append, List.length_append, Nat.add_assoc]
theorem rds_cond {x : YG} (hk : 0 ≤ x.kind ∧ x.kind < 256) (hf : 0 ≤ x.fam ∧ x.fam < 256) (hq : x.qual.length < 9223372036854775808) (hv : x.value.length < 9223372036854775808) : Rds YP (Yx x) x := fun b p v hp hd => by
 simp only [Yx, List.cons_append, List.append_assoc] at hd
 have h1 := V8 hk.1 hk.2 b p _ hp hd
 obtain ⟨l1, d1⟩ := dadv (e := [ZU x.kind]) hp hd
 have h2 := V8 hf.1 hf.2 b _ _ l1 d1
 obtain ⟨l2, d2⟩ := dadv (e := [ZU x.fam]) l1 d1
 have h3 := Xv hq b _ _ l2 d2
 obtain ⟨l3, d3⟩ := dadv l2 d2
 have h4 := Xv hv b _ _ l3 d3
 simp only [YP, h1, h2, h3, h4, Option.bind_some]
 refine congrArg some (Prod.ext rfl ?_)
 simp only [Yx, List.length_cons, List.length_nil, List.length_append]; omega
theorem rds_op {x : OpE} (hk : 0 ≤ x.kind ∧ x.kind < 256) (hf : 0 ≤ x.fam ∧ x.fam < 256) (hq : x.qual.length < 9223372036854775808) (ht : 0 ≤ x.ts ∧ x.ts < 9223372036854775808) (hv : x.value.length < 9223372036854775808) (hdl : -9223372036854775808 ≤ x.delta ∧ x.delta < 9223372036854775808) : Rds rdOp (opB x) x := fun b p v hp hd => by
 simp only [opB, List.cons_append, List.append_assoc] at hd
 have h1 := V8 hk.1 hk.2 b p _ hp hd
 obtain ⟨l1, d1⟩ := dadv (e := [ZU x.kind]) hp hd
 have h2 := V8 hf.1 hf.2 b _ _ l1 d1
 obtain ⟨l2, d2⟩ := dadv (e := [ZU x.fam]) l1 d1
 have h3 := Xv hq b _ _ l2 d2
 obtain ⟨l3, d3⟩ := dadv l2 d2
 have h4 := VK ht.1 ht.2 b _ _ l3 d3
 obtain ⟨l4, d4⟩ := dadv l3 d3
 have h5 := Xv hv b _ _ l4 d4
 obtain ⟨l5, d5⟩ := dadv l4 d4
 have h6 := rds_delta hdl.1 hdl.2 b _ _ l5 d5
 simp only [rdOp, h1, h2, h3, h4, h5, h6, Option.bind_some]
 refine congrArg some (Prod.ext rfl ?_)
 simp only [opB, List.length_cons, List.length_nil, List.length_append]; omega
structure QryE.nums (q : QryE) : Prop where
 fams : ∀ f ∈ q.fams, 0 ≤ f ∧ f < 9223372036854775808
 time : 0 ≤ q.time ∧ q.time < 9223372036854775808
 n : 0 ≤ q.n ∧ q.n < 9223372036854775808
 rows : 0 ≤ q.rows ∧ q.rows < 9223372036854775808
theorem rds_qry {q : QryE} (hn : q.nums) (h1 : q.frm.length ≤ 1048576) (h2 : q.to.length ≤ 1048576) (h3 : q.fams.length ≤ 1048576) (h4 : q.pre.length ≤ 1048576) (h5 : q.whr.length ≤ 1048576) (h6 : q.token.length ≤ 1048576) : Rds Wl (qryB q) q := fun b p v hp hd => by
 simp only [qryB, List.append_assoc] at hd
 have r1 := Xv (by omega : q.frm.length < 9223372036854775808) b p _ hp hd
 obtain ⟨l1, d1⟩ := dadv hp hd
 have r2 := Xv (by omega : q.to.length < 9223372036854775808) b _ _ l1 d1
 obtain ⟨l2, d2⟩ := dadv l1 d1
 rw [← List.append_assoc] at d2
 have r3 := rds_list (rd := YD) (enc := fun f => Zm (u64 f)) (fun f hf => VK (hn.fams f hf).1 (hn.fams f hf).2) (fun f => uintB_pos _) (by omega : q.fams.length < 9223372036854775808) b _ _ l2 d2
 obtain ⟨l3, d3⟩ := dadv l2 d2
 have r4 := Xv (by omega : q.pre.length < 9223372036854775808) b _ _ l3 d3
 obtain ⟨l4, d4⟩ := dadv l3 d3
 have r5 := VK hn.time.1 hn.time.2 b _ _ l4 d4
 obtain ⟨l5, d5⟩ := dadv l4 d4
 have r6 := VK hn.n.1 hn.n.2 b _ _ l5 d5
 obtain ⟨l6, d6⟩ := dadv l5 d5
 have r7 := VK hn.rows.1 hn.rows.2 b _ _ l6 d6
 obtain ⟨l7, d7⟩ := dadv l6 d6
 have r8 := rds_byte (if q.rev then 1 else 0) b _ _ l7 d7
 obtain ⟨l8, d8⟩ := dadv (e := [if q.rev then 1 else 0]) l7 d7
 have r9 := Xv (by omega : q.whr.length < 9223372036854775808) b _ _ l8 d8
 obtain ⟨l9, d9⟩ := dadv l8 d8
 have r10 := Xv (by omega : q.token.length < 9223372036854775808) b _ _ l9 d9
 simp only [Wl, r1, r2, r3, r4, r5, r6, r7, r8, r9, r10, Option.bind_some]
 refine congrArg some (Prod.ext ?_ ?_)
 ·show QryE.mk _ _ _ _ _ _ _ _ _ _ = q
  have e : (((if q.rev then (1 : UInt8) else 0).toNat : Int) == 1) = q.rev := by cases q.rev <;> rfl
  rw [e]
 ·simp only [qryB, Ww, List.length_append, List.length_cons, List.length_nil]
  omega
theorem schemaE_le {s : List Fml} (h : Z7 s = 0) : s.length ≤ 8 := by
 unfold Z7 at h
 split at h
 ·cases h
 ·rename_i hb
  simp [bout] at hb
  omega
theorem Uu {qc : Int} {s : List Fml} {c : CmdE} (h : ZA qc s c = 0) :
   Z7 s = 0 ∧ bout c.kind 1 7 = false ∧ cb3 c = false ∧ cb4 c = false ∧ cb5 c = false ∧ cb6 s.length c = false ∧ cb7 c = false ∧ cb8 s.length c = false ∧ cb9 c = false ∧ (Yb c.kind = true → qc = 0) ∧ (Yb c.kind = false → c.q = zq) ∧ (cmdB c).length ≤ 98304 := by
 have t : WU c = 0 → (cmdB c).length ≤ 98304 := fun hx => by
   unfold WU at hx
   split at hx
   ·cases hx
   ·rename_i h; simp at h; omega
 unfold ZA at h
 split at h
 ·exact absurd h (by decide)
 rename_i h0
 split at h
 ·exact absurd h (by decide)
 rename_i h1
 split at h
 ·exact absurd h (by decide)
 rename_i h2
 split at h
 ·exact absurd h (by decide)
 rename_i h3
 split at h
 ·exact absurd h (by decide)
 rename_i h4
 split at h
 ·exact absurd h (by decide)
 rename_i h5
 split at h
 ·exact absurd h (by decide)
 rename_i h6
 split at h
 ·exact absurd h (by decide)
 rename_i h7
 split at h
 ·exact absurd h (by decide)
 rename_i h8
 refine ⟨by simpa using h0, by simpa using h1, by simpa using h2, by simpa using h3, by simpa using h4, by simpa using h5, by simpa using h6, by simpa using h7, by simpa using h8, ?_⟩
 split at h
 ·rename_i hk
  split at h
  ·rename_i hq; simp [h] at hq
  ·rename_i hq
   exact ⟨fun _ => by simpa using hq, fun e => (by rw [hk] at e; cases e), t h⟩
 ·rename_i hk
  split at h
  ·exact absurd h (by decide)
  ·rename_i hq
   exact ⟨fun e => absurd e hk, fun _ => by simpa using hq, t h⟩
theorem condOK_rds {nf : Nat} (hn : nf ≤ 8) {x : YG} (h : Xz nf x = true) : Rds YP (Yx x) x := by
 unfold Xz at h
 simp [bout] at h
 exact rds_cond (by omega) (by omega) (by omega) (by omega)
theorem opOK_rds {nf : Nat} (hn : nf ≤ 8) {x : OpE} (hd : -9223372036854775808 ≤ x.delta ∧ x.delta < 9223372036854775808) (h : opOK nf x = true) : Rds rdOp (opB x) x := by
 unfold opOK at h
 simp [bout] at h
 exact rds_op (by omega) (by omega) (by omega) (by omega) (by omega) hd
theorem condB_pos (x : YG) : 1 ≤ (Yx x).length := by simp [Yx]
theorem opB_pos (x : OpE) : 1 ≤ (opB x).length := by simp [opB]
theorem rdCmd_B {c : CmdE} {b v : List UInt8} (hb : b = cmdB c ++ v) (hk : 1 ≤ c.kind ∧ c.kind ≤ 7)
   (h2 : 3 ≤ c.kind → (0 ≤ c.client ∧ c.client < 9223372036854775808) ∧ 0 ≤ c.serial ∧ c.serial < 9223372036854775808) (h2' : ¬ 3 ≤ c.kind → c.client = 0 ∧ c.serial = 0)
   (h3 : c.kind = 4 → c.row.length < 9223372036854775808 ∧ (∀ x ∈ c.conds, Rds YP (Yx x) x) ∧ (∀ x ∈ c.ops, Rds rdOp (opB x) x) ∧ c.conds.length < 9223372036854775808 ∧ c.ops.length < 9223372036854775808) (h3' : c.kind ≠ 4 → c.row = [] ∧ c.conds = [] ∧ c.ops = [])
   (h4 : c.kind = 5 ∨ c.kind = 6 → 0 ≤ c.n ∧ c.n < 9223372036854775808) (h4' : ¬ (c.kind = 5 ∨ c.kind = 6) → c.n = 0)
   (h5 : c.kind = 7 → Rds Wl (qryB c.q) c.q) (h5' : c.kind ≠ 7 → c.q = zq) :
   Wm b = if (cmdB c).length = b.length then some c else none := by
 obtain ⟨k, cl, se, row, cds, ops, m, q⟩ := c
 simp only at *
 have hd0 : b.drop 0 = [ZU k] ++ ((if 3 ≤ k then Zm (u64 cl) ++ Zm (u64 se) else []) ++ ((if k = 4 then Zp row ++ Zm cds.length ++ cds.flatMap Yx ++ Zm ops.length ++ ops.flatMap opB
    else if k = 5 ∨ k = 6 then Zm (u64 m) else if k = 7 then qryB q else []) ++ v)) := by
   rw [List.drop_zero, hb]
   simp only [cmdB, List.cons_append, List.append_assoc, List.nil_append]
 have r1 := V8 (n := k) (by omega) (by omega) b 0 _ (Nat.zero_le _) hd0
 obtain ⟨l1, d1⟩ := dadv (Nat.zero_le _) hd0
 have s1 : rs1 b 0 = some ({ zc with kind := k }, 0 + [ZU k].length) := by
   have hbo : bout k 1 7 = false := by simp [bout]; omega
   rw [rs1, r1, Option.bind_some]
   simp only [hbo, Bool.false_eq_true, ↓reduceIte]
 have s2 : rs2 b { zc with kind := k } (0 + [ZU k].length) = some ({ zc with kind := k, client := cl, serial := se }, 0 + [ZU k].length + (if 3 ≤ k then Zm (u64 cl) ++ Zm (u64 se) else []).length) := by
   by_cases h : 3 ≤ k
   ·have hkk : (ZP k || YO k) = true := by simp [ZP, YO]; omega
    rw [if_pos h] at d1 ⊢
    rw [List.append_assoc] at d1
    have ra := VK (h2 h).1.1 (h2 h).1.2 b _ _ l1 d1
    obtain ⟨la, da⟩ := dadv l1 d1
    have rb := VK (h2 h).2.1 (h2 h).2.2 b _ _ la da
    simp only [rs2, hkk, ↓reduceIte, ra, rb, Option.bind_some]
    simp only [List.length_append, Nat.add_assoc]
   ·have hkk : (ZP k || YO k) = false := by simp [ZP, YO]; omega
    obtain ⟨rfl, rfl⟩ := h2' h
    rw [if_neg h]
    simp only [rs2, hkk, Bool.false_eq_true, ↓reduceIte, List.length_nil, Nat.add_zero]
    rfl
 obtain ⟨l2, d2⟩ := dadv l1 d1
 have hlen : (cmdB ⟨k, cl, se, row, cds, ops, m, q⟩).length = 0 + [ZU k].length + (if 3 ≤ k then Zm (u64 cl) ++ Zm (u64 se) else []).length + (if k = 4 then Zp row ++ Zm cds.length ++ cds.flatMap Yx ++ Zm ops.length ++ ops.flatMap opB
    else if k = 5 ∨ k = 6 then Zm (u64 m) else if k = 7 then qryB q else []).length := by
   simp only [cmdB, List.length_cons, List.length_append, List.length_nil]; omega
 generalize hp2 : 0 + [ZU k].length + (if 3 ≤ k then Zm (u64 cl) ++ Zm (u64 se) else []).length = p2 at *
 have s3 : rs3 b { zc with kind := k, client := cl, serial := se } p2 = some ({ zc with kind := k, client := cl, serial := se, row := row, conds := cds, ops := ops }, p2 + (if k = 4 then Zp row ++ Zm cds.length ++ cds.flatMap Yx ++ Zm ops.length ++ ops.flatMap opB else []).length) := by
   by_cases h : k = 4
   ·have hkk : kOps k = true := by simp [kOps, h]
    rw [if_pos h] at d2 ⊢
    obtain ⟨g1, g2, g3, g4, g5⟩ := h3 h
    simp only [List.append_assoc] at d2
    have ra := Xv g1 b _ _ l2 d2
    obtain ⟨la, da⟩ := dadv l2 d2
    rw [← List.append_assoc] at da
    have rb := rds_list g2 condB_pos g4 b _ _ la da
    obtain ⟨lb, db⟩ := dadv la da
    rw [← List.append_assoc] at db
    have rc := rds_list g3 opB_pos g5 b _ _ lb db
    simp only [rs3, hkk, ↓reduceIte, ra, rb, rc, Option.bind_some]
    simp only [List.length_append, Nat.add_assoc]
   ·have hkk : kOps k = false := by simp [kOps, h]
    obtain ⟨rfl, rfl, rfl⟩ := h3' h
    rw [if_neg h]
    simp only [rs3, hkk, Bool.false_eq_true, ↓reduceIte, List.length_nil, Nat.add_zero]
    rfl
 have s4 : rs4 b { zc with kind := k, client := cl, serial := se, row := row, conds := cds, ops := ops } (p2 + (if k = 4 then Zp row ++ Zm cds.length ++ cds.flatMap Yx ++ Zm ops.length ++ ops.flatMap opB else []).length) = some ({ zc with kind := k, client := cl, serial := se, row := row, conds := cds, ops := ops, n := m }, p2 + (if k = 4 then Zp row ++ Zm cds.length ++ cds.flatMap Yx ++ Zm ops.length ++ ops.flatMap opB else if k = 5 ∨ k = 6 then Zm (u64 m) else []).length) := by
   by_cases h : k = 5 ∨ k = 6
   ·have hkk : 0 ≤ Yl k := by rcases h with rfl | rfl <;> decide
    have h0 : ¬ k = 4 := by omega
    rw [if_neg h0, if_pos h] at d2
    rw [if_neg h0, if_neg h0, if_pos h]
    have ra := VK (h4 h).1 (h4 h).2 b _ _ l2 d2
    simp only [rs4, hkk, ↓reduceIte, List.length_nil, Nat.add_zero, ra, Option.bind_some]
   ·have hkk : ¬ 0 ≤ Yl k := by
      unfold Yl
      rw [if_neg (by omega), if_neg (by omega), if_neg (by omega)]; decide
    obtain rfl := h4' h
    rw [if_neg h]
    simp only [rs4, hkk, ↓reduceIte]
    rfl
 have s5 : rs5 b { zc with kind := k, client := cl, serial := se, row := row, conds := cds, ops := ops, n := m } (p2 + (if k = 4 then Zp row ++ Zm cds.length ++ cds.flatMap Yx ++ Zm ops.length ++ ops.flatMap opB else if k = 5 ∨ k = 6 then Zm (u64 m) else []).length) = some (⟨k, cl, se, row, cds, ops, m, q⟩, p2 + (if k = 4 then Zp row ++ Zm cds.length ++ cds.flatMap Yx ++ Zm ops.length ++ ops.flatMap opB
    else if k = 5 ∨ k = 6 then Zm (u64 m) else if k = 7 then qryB q else []).length) := by
   by_cases h : k = 7
   ·have hkk : Yb k = true := by simp [Yb, h]
    have h0 : ¬ k = 4 := by omega
    have h1 : ¬ (k = 5 ∨ k = 6) := by omega
    rw [if_neg h0, if_neg h1, if_pos h] at d2
    rw [if_neg h0, if_neg h1, if_neg h0, if_neg h1, if_pos h]
    have ra := h5 h b _ _ l2 d2
    simp only [rs5, hkk, ↓reduceIte, List.length_nil, Nat.add_zero, ra, Option.bind_some]
   ·have hkk : Yb k = false := by simp [Yb, h]
    obtain rfl := h5' h
    rw [if_neg h]
    simp only [rs5, hkk, Bool.false_eq_true, ↓reduceIte]
    rfl
 rw [hlen]
 simp only [Wm, s1, s2, s3, s4, s5, Option.bind_some]
structure WR (qc : Int) (s : List Fml) (c : CmdE) : Prop where
 ok : ZA qc s c = 0
 fits : c.fits
 delta : ∀ o ∈ c.ops, -9223372036854775808 ≤ o.delta ∧ o.delta < 9223372036854775808
 nums : Yb c.kind = true → qc = 0 → c.q.nums
theorem WR.rd {qc : Int} {s : List Fml} {c : CmdE} (h : WR qc s c) (v : List UInt8) : Wm (cmdB c ++ v) = if (cmdB c).length = (cmdB c ++ v).length then some c else none := by
 obtain ⟨p0, p1, p3, p4, p5, p6, p7, p8, p9, p10, p11, _⟩ := Uu h.ok
 have hs := schemaE_le p0
 simp only [bout, Bool.or_eq_false_iff, decide_eq_false_iff_not] at p1
 have hf := h.fits
 refine rdCmd_B rfl (by omega) (fun h3 => ?_) (fun h3 => ?_) (fun h4 => ?_) (fun h4 => ?_) (fun h5 => ?_) (fun h5 => ?_) (fun h7 => ?_) (fun h7 => ?_)
 ·have e : (ZP c.kind || YO c.kind) = true := by simp [ZP, YO]; omega
  have e2 : (0 : Int) ≤ (if ZP c.kind then 1 else 0) := by split <;> decide
  simp [cb3, e, bout] at p3
  simp [cb4, bout] at p4
  omega
 ·have e : YO c.kind = false := by simp [YO]; omega
  have e2 : ZP c.kind = false := by simp [ZP]; omega
  simp only [cb3, e, e2, bout, Bool.or_self, Bool.false_eq_true, ↓reduceIte, Bool.or_eq_false_iff, decide_eq_false_iff_not] at p3
  have h1 : c.client = 0 := by omega
  simp [cb4, bout, h1] at p4
  exact ⟨h1, by simpa using p4.2⟩
 ·have e : kOps c.kind = true := by simp [kOps, h4]
  simp [cb6, e] at p6
  simp [cb8] at p8
  exact ⟨by have := hf.row; omega, fun x hx => condOK_rds hs (p6.2 x hx), fun x hx => opOK_rds hs (h.delta x hx) (p8 x hx), by have := hf.conds; omega, by have := hf.ops; omega⟩
 ·have e : kOps c.kind = false := by simp [kOps, h4]
  simp [cb5, e] at p5
  simp [cb6, e] at p6
  simp [cb7, e] at p7
  exact ⟨p5, p6.1.1, p7⟩
 ·simp only [cb9] at p9
  rcases h5 with e | e <;> (simp [e, Yl, bout] at p9; omega)
 ·have e : Yl c.kind < 0 := by
    unfold Yl
    rw [if_neg (by omega), if_neg (by omega), if_neg (by omega)]; decide
  simp [cb9, e] at p9
  exact p9.1
 ·have e : Yb c.kind = true := by simp [Yb, h7]
  exact rds_qry (h.nums e (p10 e)) hf.frm hf.to hf.fams hf.pre hf.whr hf.token
 ·exact p11 (by simp [Yb, h7])
theorem WR.pre {qc qc' : Int} {s : List Fml} {c c' : CmdE} (h : WR qc s c) (h' : WR qc' s c') {v : List UInt8} (e : cmdB c = cmdB c' ++ v) : c = c' := by
 have h1 := h.rd []
 have h2 := h'.rd v
 rw [List.append_nil, if_pos rfl, e] at h1
 rw [h1] at h2
 split at h2
 ·exact Option.some.inj h2
 ·cases h2
structure RepBack (r : RepE) : Prop where
 ok : Xd r = true
 value : r.value < 9223372036854775808
 cells : ∀ x ∈ r.rows, x.cells.length < 9223372036854775808
 token : r.token.length < 9223372036854775808
def OpE.fine (o : OpE) : Prop := -9223372036854775808 ≤ o.delta ∧ o.delta < 9223372036854775808
theorem rdOp_fine {b : List UInt8} {p q : Nat} {x : OpE} (h : rdOp b p = some (x, q)) : x.fine := by
 simp only [rdOp, Option.bind_eq_some_iff] at h
 obtain ⟨⟨k, p1⟩, h1, ⟨f, p2⟩, h2, ⟨qq, p3⟩, h3, ⟨t, p4⟩, h4, ⟨v, p5⟩, h5, ⟨d, p6⟩, h6, h7⟩ := h
 simp only [Option.some.injEq, Prod.mk.injEq] at h7
 obtain ⟨rfl, rfl⟩ := h7
 unfold Vj at h6
 split at h6
 ·cases h6
 ·simp only [Option.some.injEq, Prod.mk.injEq] at h6
  obtain ⟨rfl, _⟩ := h6
  show -9223372036854775808 ≤ IntKind.i64.wrap _ ∧ IntKind.i64.wrap _ < 9223372036854775808
  rw [IntKind.wrap_i64]
  omega
theorem rdCmd_fine {b : List UInt8} {c : CmdE} (h : Wm b = some c) : ∀ o ∈ c.ops, o.fine := by
 simp only [Wm, Option.bind_eq_some_iff] at h
 obtain ⟨⟨c1, p1⟩, h1, ⟨c2, p2⟩, h2, ⟨c3, p3⟩, h3, ⟨c4, p4⟩, h4, ⟨c5, p5⟩, h5, h6⟩ := h
 split at h6
 ·cases h6
  have o1 : c1.ops = [] := by
    simp only [rs1, Option.bind_eq_some_iff] at h1
    obtain ⟨x, _, h⟩ := h1
    split at h
    ·cases h
    ·simp only [Option.some.injEq, Prod.mk.injEq] at h
     obtain ⟨rfl, _⟩ := h; rfl
  have o2 : c2.ops = c1.ops := by
    simp only [rs2] at h2
    split at h2
    ·simp only [Option.bind_eq_some_iff] at h2
     obtain ⟨x, _, y, _, h⟩ := h2
     simp only [Option.some.injEq, Prod.mk.injEq] at h
     obtain ⟨rfl, _⟩ := h; rfl
    ·simp only [Option.some.injEq, Prod.mk.injEq] at h2
     obtain ⟨rfl, _⟩ := h2; rfl
  have o3 : ∀ o ∈ c3.ops, o.fine := by
    simp only [rs3] at h3
    split at h3
    ·simp only [Option.bind_eq_some_iff] at h3
     obtain ⟨x, _, y, _, z, hz, h⟩ := h3
     simp only [Option.some.injEq, Prod.mk.injEq] at h
     obtain ⟨rfl, _⟩ := h
     exact Un (A := OpE.fine) (fun h => rdOp_fine h) (l := z.1) (q := z.2) hz
    ·simp only [Option.some.injEq, Prod.mk.injEq] at h3
     obtain ⟨rfl, _⟩ := h3
     rw [o2, o1]; simp
  have o4 : c4.ops = c3.ops := by
    simp only [rs4] at h4
    split at h4
    ·simp only [Option.bind_eq_some_iff] at h4
     obtain ⟨x, _, h⟩ := h4
     simp only [Option.some.injEq, Prod.mk.injEq] at h
     obtain ⟨rfl, _⟩ := h; rfl
    ·simp only [Option.some.injEq, Prod.mk.injEq] at h4
     obtain ⟨rfl, _⟩ := h4; rfl
  have o5 : c5.ops = c4.ops := by
    simp only [rs5] at h5
    split at h5
    ·simp only [Option.bind_eq_some_iff] at h5
     obtain ⟨x, _, h⟩ := h5
     simp only [Option.some.injEq, Prod.mk.injEq] at h
     obtain ⟨rfl, _⟩ := h; rfl
    ·simp only [Option.some.injEq, Prod.mk.injEq] at h5
     obtain ⟨rfl, _⟩ := h5; rfl
  show ∀ o ∈ c5.ops, o.fine
  rw [o5, o4]; exact o3
 ·cases h6
section
variable {qc : QryE → Int} {s : List Fml}
theorem decC_zero {b : List UInt8} (hqn : ∀ q, qc q = 0 → q.nums) (h : (decC qc s b).2 = 0) : WR (qc (decC qc s b).1.q) s (decC qc s b).1 ∧ cmdB (decC qc s b).1 = b := by
 unfold decC at h ⊢
 split at h
 ·cases h
 rename_i h1
 rw [if_neg h1]
 split at h
 ·cases h
 rename_i h2
 rw [if_neg h2]
 split at h
 ·rename_i c hc
  split at h
  ·rename_i h3
   rw [if_pos h3]
   exact ⟨⟨h3.1, (Xf (by omega) hc).1, rdCmd_fine hc, fun _ => hqn _⟩, h3.2⟩
  ·cases h
 ·cases h
theorem decC_back {c : CmdE} (h : WR (qc c.q) s c) : decC qc s (cmdB c) = (c, 0) := by
 have hp := Uu h.ok
 have hr := h.rd []
 rw [List.append_nil, if_pos rfl] at hr
 unfold decC
 rw [if_neg (by rw [hp.1]; simp), if_neg (by have := hp.2.2.2.2.2.2.2.2.2.2.2; omega), hr]
 simp only [h.ok, and_self, ↓reduceIte]
theorem cmdB_inj {c d : CmdE} (h : WR (qc c.q) s c) (h' : WR (qc d.q) s d) : cmdB c = cmdB d ↔ c = d :=
 ⟨fun e => h.pre h' (v := []) (by rw [e, List.append_nil]), fun e => by rw [e]⟩
end
structure Wd where
 kind : Nat
 pos : Nat
 text : List UInt8
 num : Nat
 str : List UInt8
structure Qst where
 far : Nat
 nxt : Wd
 out : List Wd
 deep : Nat
def smallQ (c : UInt8) : Bool := 97 ≤ c.toNat && c.toNat ≤ 122
def Yp (c : UInt8) : Bool := 48 ≤ c.toNat && c.toNat ≤ 57
def Vg (c : UInt8) : Bool := smallQ c || Yp c || c.toNat == 95
def hexV (c : UInt8) : Option Nat := if Yp c then some (c.toNat - 48) else if 97 ≤ c.toNat ∧ c.toNat ≤ 102 then some (c.toNat - 87) else none
def hexC (n : Nat) : UInt8 := UInt8.ofNat (if n < 10 then 48 + n else 87 + n)
def Yj (so : UInt8 → Bool) (t : List UInt8) (p : Nat) : Nat := p + ((t.drop p).takeWhile so).length
def Xx (c : UInt8) : List UInt8 :=
 if c.toNat = 34 ∨ c.toNat = 92 then [92, c]
 else if c.toNat < 32 ∨ 126 < c.toNat then [92, hexC (c.toNat / 16), hexC (c.toNat % 16)]
 else [c]
def strG : Nat → List UInt8 → Nat → List UInt8 → List UInt8 → Option (List UInt8 × List UInt8 × Nat)
 | 0, _, _, _, _ => none
 | f + 1, l, i, s, x =>
   match l with
   | [] => none
   | c :: l =>
     if c.toNat = 34 then some (s, x ++ [34], i + 1)
     else if c.toNat < 32 ∨ 126 < c.toNat then none
     else if c.toNat = 92 then
       match l with
       | [] => none
       | d :: l =>
         if d.toNat = 34 ∨ d.toNat = 92 then strG f l (i + 2) (s ++ [d]) (x ++ Xx d)
         else match l with
         | [] => none
         | e :: l =>
           match hexV d, hexV e with
           | some a, some b => strG f l (i + 3) (s ++ [UInt8.ofNat (16 * a + b)]) (x ++ Xx (UInt8.ofNat (16 * a + b)))
           | _, _ => none
     else strG f l (i + 1) (s ++ [c]) (x ++ Xx c)
def strF (t : List UInt8) (p : Nat) : Option (Wd × Nat) :=
 (strG (t.length + 1) (t.drop (p + 1)) (p + 1) [] [34]).map fun x => (⟨3, p, x.2.1, 0, x.1⟩, x.2.2)
def numV (l : List UInt8) : Nat := (l.take 14).foldl (fun n c => 10 * n + (c.toNat - 48)) 0
def numF (t : List UInt8) (p : Nat) : Option (Wd × Nat) :=
 let d := (t.drop p).takeWhile Yp
 if 1099511627776 < numV d ∨ (1 < d.length ∧ d.getD 0 0 = 48) then none else some (⟨2, p, d, numV d, []⟩, Yj Yp t p)
def X7 : List (List UInt8) := [[33, 61], [60, 61], [62, 61], [61], [60], [62], [94], [40], [41]]
def wordF (t : List UInt8) (p : Nat) : Except Nat (Wd × Nat) :=
 let q := Yj (fun c => c.toNat == 32) t p
 match t.drop q with
 | [] => .ok (⟨0, q, [], 0, []⟩, q)
 | c :: l =>
   if smallQ c then .ok (⟨1, q, (t.drop q).takeWhile Vg, 0, []⟩, Yj Vg t q)
   else if Yp c then (match numF t q with | some x => .ok x | none => .error q)
   else if c.toNat = 34 then (match strF t q with | some x => .ok x | none => .error q)
   else match X7.find? (fun s => s.isPrefixOf (c :: l)) with
     | some s => .ok (⟨4, q, s, 0, []⟩, q + s.length)
     | none => .error q
def Q6 (t : List UInt8) (s : Qst) : Except Nat Qst := (wordF t s.far).map fun x => { s with far := x.2, nxt := x.1 }
def Vs (t : List UInt8) (s : Qst) : Except Nat (Wd × Qst) := (Q6 t { s with out := s.out ++ [s.nxt] }).map fun x => (s.nxt, x)
def isF (s : Qst) (w : List UInt8) : Bool := (s.nxt.kind == 1 || s.nxt.kind == 4) && s.nxt.text == w
def wantF (t : List UInt8) (k : Nat) (s : Qst) : Except Nat (Wd × Qst) := if s.nxt.kind = k then Vs t s else .error s.nxt.pos
def signF (t : List UInt8) (ws : List (List UInt8)) (s : Qst) : Except Nat (List UInt8 × Qst) :=
 if s.nxt.kind = 4 ∧ s.nxt.text ∈ ws then (Vs t s).map fun x => (x.1.text, x.2) else .error s.nxt.pos
def openF (t : List UInt8) (s : Qst) : Except Nat Qst :=
 if 16 < s.deep + 1 then .error s.nxt.pos else (Vs t { s with deep := s.deep + 1 }).map (·.2)
inductive Tst where
 | or (a b : Tst)
 | and (a b : Tst)
 | not (a : Tst)
 | fam (n : Int) (sign : List UInt8)
 | cmp (qual : Bool) (sign s : List UInt8)
 | ts (sign : List UInt8) (n : Nat)
def famF (s : List Fml) (w : List UInt8) : Int := VB s w 0
def wFam : List UInt8 := [102, 97, 109]
def Q3 : List UInt8 := [113, 117, 97, 108]
def QJ : List UInt8 := [118, 97, 108, 117, 101]
def wTs : List UInt8 := [116, 115]
def wOr : List UInt8 := [111, 114]
def wAnd : List UInt8 := [97, 110, 100]
def wNot : List UInt8 := [110, 111, 116]
def sEq : List (List UInt8) := [[61], [33, 61]]
def sCmp : List (List UInt8) := sEq ++ [[60], [60, 61], [62], [62, 61]]
def sAll : List (List UInt8) := sCmp ++ [[94]]
def testF (fs : List Fml) (t : List UInt8) (s : Qst) : Except Nat (Tst × Qst) :=
 if isF s wFam then (Vs t s).bind fun x => (signF t sEq x.2).bind fun y =>
   if y.2.nxt.kind ≠ 1 ∨ famF fs y.2.nxt.text < 0 then .error y.2.nxt.pos
   else (Vs t y.2).map fun z => (.fam (famF fs y.2.nxt.text) y.1, z.2)
 else if isF s Q3 ∨ isF s QJ then (Vs t s).bind fun x => (signF t sAll x.2).bind fun y => (wantF t 3 y.2).map fun z => (.cmp (x.1.text == Q3) y.1 z.1.str, z.2)
 else if isF s wTs then (Vs t s).bind fun x => (signF t sCmp x.2).bind fun y => (wantF t 2 y.2).map fun z => (.ts y.1 z.1.num, z.2)
 else .error s.nxt.pos
mutual
def condF (fs : List Fml) (t : List UInt8) : Nat → Qst → Except Nat (Tst × Qst)
 | 0, s => .error s.nxt.pos
 | f + 1, s => (termF fs t f s).bind fun x => orsF fs t f x.1 x.2
def orsF (fs : List Fml) (t : List UInt8) : Nat → Tst → Qst → Except Nat (Tst × Qst)
 | 0, _, s => .error s.nxt.pos
 | f + 1, a, s => if isF s wOr then (Vs t s).bind fun x => (termF fs t f x.2).bind fun y => orsF fs t f (.or a y.1) y.2 else .ok (a, s)
def termF (fs : List Fml) (t : List UInt8) : Nat → Qst → Except Nat (Tst × Qst)
 | 0, s => .error s.nxt.pos
 | f + 1, s => (Jm fs t f s).bind fun x => andsF fs t f x.1 x.2
def andsF (fs : List Fml) (t : List UInt8) : Nat → Tst → Qst → Except Nat (Tst × Qst)
 | 0, _, s => .error s.nxt.pos
 | f + 1, a, s => if isF s wAnd then (Vs t s).bind fun x => (Jm fs t f x.2).bind fun y => andsF fs t f (.and a y.1) y.2 else .ok (a, s)
def Jm (fs : List Fml) (t : List UInt8) : Nat → Qst → Except Nat (Tst × Qst)
 | 0, s => .error s.nxt.pos
 | f + 1, s =>
   if isF s wNot then (openF t s).bind fun x => (Jm fs t f x).map fun y => (.not y.1, { y.2 with deep := y.2.deep - 1 })
   else if isF s [40] then (openF t s).bind fun x => (condF fs t f x).bind fun y =>
     if isF y.2 [41] then (Vs t { y.2 with deep := y.2.deep - 1 }).map fun z => (y.1, z.2) else .error y.2.nxt.pos
   else testF fs t s
end
def X8 : Option Wd → List Wd → List UInt8
 | _, [] => []
 | none, w :: l => w.text ++ X8 (some w) l
 | some v, w :: l => (if w.text ≠ [41] ∧ v.text ≠ [40] then [32] else []) ++ w.text ++ X8 (some w) l
def parseF (fs : List Fml) (t : List UInt8) : Except Nat (Tst × List UInt8) :=
 if 512 < t.length then .error 512
 else (Q6 t ⟨0, ⟨0, 0, [], 0, []⟩, [], 0⟩).bind fun s => (condF fs t (8 * t.length + 16) s).bind fun x =>
   if x.2.nxt.kind ≠ 0 then .error x.2.nxt.pos else .ok (x.1, X8 none x.2.out)
def idxB (s : List UInt8) (b : UInt8) : Int := match (List.range s.length).find? fun i => s.getD i 0 == b with | some i => i | none => -1
theorem ext_indexByte {P : Program} {f : FuncId} {fn : Func} {H : Heap} {n : Nat} {k : AV → Heap → Nat → Prop} (hf : P.funcs[f]? = some fn) (hb : fn.body = none) (hn : (fn.name == "runtime.NumGoroutine") = false)
   (h1 : (Extern.findNext fn).isNone = true) (h2 : Extern.find fn = some Extern.BytealgIndexByte.indexByte) (s : List UInt8) (b : UInt8) (hk : k (.int .i64 (idxB s b)) H n) : ExtC P f [.str s, Zo b] H n k := fun c w vs hs hr => by
 simp only [RelT] at hr
 obtain ⟨v1, _, rfl, hr1, v2, _, rfl, hr2, rfl⟩ := hr
 have h1' : Extern.findNext fn = none := by simpa using h1
 simp only [Rel, Zo, List.cons.injEq, and_true] at hr1 hr2
 subst hr1 hr2
 refine ⟨_, .int .i64 (idxB s b), c, H, n, w, ?_, .refl hs, by simp [Rel], hk⟩
 have e : ∀ i : Nat, (ByteArray.mk s.toArray)[i]! = s.getD i 0 := fun i => by
   by_cases h : i < s.length
   ·rw [getElem!_pos _ _ (by show i < s.toArray.size; simpa using h)]
    simp [List.getD, List.getElem?_eq_getElem h]
    rfl
   ·rw [getElem!_neg _ _ (by show ¬ i < s.toArray.size; simpa using h)]
    simp [List.getD, List.getElem?_eq_none (Nat.le_of_not_lt h)]
    rfl
 have hc : (Extern.BytealgIndexByte.indexByte #[.string ⟨s.toArray⟩, .int .u8 b.toNat]).run P w = .ok (.int .i64 (idxB s b)) w := by
   change Sem.run P (do
     let b' ← Extern.Bytes.bytesOf (.string ⟨s.toArray⟩)
     let c' ← Extern.Bytes.asByte (.int .u8 b.toNat)
     match (List.range b'.size).find? fun i => b'[i]! == c' with
     | some i => pure (goInt i)
     | none => pure (goInt (-1))) w = _
   simp only [Extern.Bytes.bytesOf, Extern.Bytes.asByte, pure_bind]
   have e2 : ((b.toNat : Int).toNat).toUInt8 = b := by simp
   rw [e2]
   have e3 : (ByteArray.mk s.toArray).size = s.length := by simp [ByteArray.size]
   rw [e3]
   simp only [e]
   unfold idxB
   split <;> simp_all <;> rfl
 have hn' : ¬ fn.name = "runtime.NumGoroutine" := by simpa using hn
 simp [callFunc, hf, hn', hb, h1', h2, hc]
def hexS : List UInt8 := [48, 49, 50, 51, 52, 53, 54, 55, 56, 57, 97, 98, 99, 100, 101, 102]
def hexI (c : UInt8) : Int := match hexV c with | some x => x | none => -1
theorem idxB_hex (c : UInt8) : idxB hexS c = hexI c := by
 have h : ∀ i : Fin 256, idxB hexS (UInt8.ofNat i.val) = hexI (UInt8.ofNat i.val) := by decide +kernel
 have := h ⟨c.toNat, c.toNat_lt⟩
 simpa using this
end Go.Rt
namespace Go.Proofs.YtifnhpmeoogedaaGreatDoor
open Go Go.Sx Go.Rt Go.Proofs Tryz
theorem QB (b : UInt8) (H : Heap) (n : Nat) : Ret prog 179 [Zo b] H n (.bool (smallQ b)) H n := by
 refine Zc func179 rfl ntmps179 (congrArg Array.toList results179) (by simp) ?_
 simp only [go_sem]
 refine ZB zs [0] ?_
 refine ZB zs [2] ?_
 refine Ze ?_
 try simp only [go_sem, seval]
 unfold smallQ; have i1 : ((97 : Int) ≤ (b.toNat : Int)) = (97 ≤ b.toNat) := propext (by omega)
 have i2 : ((b.toNat : Int) ≤ 122) = (b.toNat ≤ 122) := propext (by omega)
 by_cases h : 97 ≤ b.toNat <;> simp [h, i1, i2]
theorem V3 (b : UInt8) (H : Heap) (n : Nat) : Ret prog 181 [Zo b] H n (.bool (Yp b)) H n := by
 refine Zc func181 rfl ntmps181 (congrArg Array.toList results181) (by simp) ?_
 simp only [go_sem]
 refine ZB zs [0] ?_
 refine ZB zs [2] ?_
 refine Ze ?_
 try simp only [go_sem, seval]
 unfold Yp; have i1 : ((48 : Int) ≤ (b.toNat : Int)) = (48 ≤ b.toNat) := propext (by omega)
 have i2 : ((b.toNat : Int) ≤ 57) = (b.toNat ≤ 57) := propext (by omega)
 by_cases h : 48 ≤ b.toNat <;> simp [h, i1, i2]
theorem c_query_blank (b : UInt8) (H : Heap) (n : Nat) : Ret prog 178 [Zo b] H n (.bool (b.toNat == 32)) H n := by
 refine Zc func178 rfl ntmps178 (congrArg Array.toList results178) (by simp) ?_
 simp only [go_sem]
 refine ZB zs [0] ?_
 refine ZB zs [2] ?_
 refine Ze ?_
 try simp only [go_sem, seval]
 simp
 rw [Bool.eq_iff_iff, beq_iff_eq, beq_iff_eq]; omega
theorem c_query_name (b : UInt8) (H : Heap) (n : Nat) : Ret prog 180 [Zo b] H n (.bool (Vg b)) H n := by
 refine Zc func180 rfl ntmps180 (congrArg Array.toList results180) (by simp) ?_
 simp only [go_sem]
 refine ZB zs [0] ?_
 refine Za zs [2] fun K hK => ?_
 try simp only [go_sem, seval]
 refine Zg func179 rfl rfl rfl ((QB b _ _)) ?_
 try simp only [go_sem, seval]
 refine Zv func181 rfl rfl rfl (fun _ => (V3 b _ _)) ?_
 try simp only [go_sem, seval]
 repeat refine peel ?_
 apply hK; clear hK K
 refine Ze ?_
 try simp only [go_sem, seval]
 unfold Vg; have i : ((b.toNat : Int) == 95) = (b.toNat == 95) := by rw [Bool.eq_iff_iff, beq_iff_eq, beq_iff_eq]; omega
 simp_all
theorem c_sl_IndexByte (s : List UInt8) (b : UInt8) (H : Heap) (n : Nat) : Ret prog 209 [.str s, Zo b] H n (.int .i64 (idxB s b)) H n := by
 refine Zc func209 rfl ntmps209 (congrArg Array.toList results209) (by simp) ?_
 simp only [go_sem]
 refine ZB zs [0, 1] ?_
 refine Za zs [4] fun K hK => ?_
 try simp only [go_sem, seval]
 refine .inr (ext_indexByte func218 rfl rfl (by decide) rfl s b ?_)
 try simp only [go_sem, seval]
 apply hK; clear hK K
 refine Ze ?_
 try simp only [go_sem, seval]
theorem Qu (s : List UInt8) (b : UInt8) (H : Heap) (n : Nat) : Ret prog 202 [.str s, Zo b] H n (.int .i64 (idxB s b)) H n := by
 refine Zc func202 rfl ntmps202 (congrArg Array.toList results202) (by simp) ?_
 simp only [go_sem]
 refine ZB zs [0, 1] ?_
 refine Za zs [4] fun K hK => ?_
 try simp only [go_sem, seval]
 refine Zg func209 rfl rfl rfl ((c_sl_IndexByte s b _ _)) ?_
 try simp only [go_sem, seval]
 apply hK; clear hK K
 refine Ze ?_
 try simp only [go_sem, seval]
theorem VQ (b : UInt8) (H : Heap) (n : Nat) : Ret prog 196 [Zo b] H n (.int .i64 (hexI b)) H n := by
 refine Zc func196 rfl ntmps196 (congrArg Array.toList results196) (by simp) ?_
 simp only [go_sem]
 refine ZB zs [0] ?_
 refine Za zs [2] fun K hK => ?_
 try simp only [go_sem, seval]
 refine Zg func202 rfl rfl rfl ((Qu hexS b _ _)) ?_
 try simp only [go_sem, seval]
 apply hK; clear hK K
 refine Ze ?_
 try simp only [go_sem, seval]
 rw [idxB_hex]
def Uj (p : Nat) : AV := .iface 208 (.agg [.int .i64 p])
theorem Yn (p : Nat) (H : Heap) (n : Nat) : Zx prog 163 [.int .i64 p] H n fun res H' n' => H' = H ∧ n' = n ∧ res = .pan (Uj p) := by
 refine Zc func163 rfl ntmps163 (congrArg Array.toList results163) (by simp) ?_
 simp only [go_sem]
 refine VG zs 3 rfl trivial ?_
 try simp only [go_sem, seval]
 repeat refine peel ?_
 rfl
def wdAV (w : Wd) : AV := .agg [.int .i64 w.kind, .int .i64 w.pos, .str w.text, .int .i64 w.num, bys w.str]
def qdO (fs : List Fml) (t : List UInt8) (s : Qst) (ko ver : Nat) : AObj := .arr 0 10 [.agg [Zu fs, .str t, .int .i64 s.far, wdAV s.nxt, .osl ko ver 0 s.out.length, .int .i64 s.deep]]
theorem whileF_on {so : UInt8 → Bool} {t : List UInt8} {i : Nat} (h : i < t.length) (hb : so (t.getD i 0) = true) : Yj so t (i + 1) = Yj so t i := by
 unfold Yj
 rw [List.drop_eq_getElem_cons h, List.takeWhile_cons]
 have e : t.getD i 0 = t[i] := by simp [List.getD, h]
 rw [e] at hb
 rw [if_pos hb, List.length_cons]; omega
theorem whileF_off {so : UInt8 → Bool} {t : List UInt8} {i : Nat} (h : i < t.length) (hb : so (t.getD i 0) = false) : Yj so t i = i := by
 unfold Yj
 rw [List.drop_eq_getElem_cons h, List.takeWhile_cons]
 have e : t.getD i 0 = t[i] := by simp [List.getD, h]
 rw [e] at hb
 rw [if_neg (by rw [hb]; simp)]; rfl
theorem whileF_end {so : UInt8 → Bool} {t : List UInt8} {i : Nat} (h : t.length ≤ i) : Yj so t i = i := by
 unfold Yj
 rw [List.drop_eq_nil_of_le h]; rfl
theorem VZ (fs : List Fml) (t : List UInt8) (s : Qst) (kr ko ver : Nat) (ht : t.length ≤ 512) (p : Nat) (hp : p ≤ t.length) (so : UInt8 → Bool) (f : FuncId) {fn : Func} (hf : (prog).funcs[f]? = some fn) (hbd : fn.body.isSome = true) (hn : (fn.name == "runtime.NumGoroutine") = false)
   (H : Heap) (n : Nat) (hso : ∀ b H n, Ret prog f [Zo b] H n (.bool (so b)) H n) (hR : H kr = some (qdO fs t s ko ver)) :
   Ret prog 177 [.loc kr 0 0 0 [], .int .i64 p, .fn (.func f) [] []] H n (.int .i64 (Yj so t p)) H n := by
 have hR1 := hR
 unfold qdO at hR1
 have w1 : ∀ {i : Nat}, i < t.length → IntKind.i64.wrap ((i : Int) + 1) = ((i + 1 : Nat) : Int) := fun h => by rw [w64 (by omega) (by omega)]; omega
 have hszs : (Zu fs).sz = 1 := rfl
 have hszb : ∀ b, (bys b).sz = 1 := fun _ => rfl
 refine Zc func177 rfl ntmps177 (congrArg Array.toList results177) (by simp) ?_
 simp only [go_sem]
 refine Za zs [0, 1, 2] fun K hK => ?_
 try simp only [go_sem, seval]
 apply hK; clear hK K
 refine Zb fun K1 hK1 => ?_
 refine Zk ?_
 refine Zy (fun T' H' n' => ∃ i : Nat, i ≤ t.length ∧ T' = tl [(0, .loc kr 0 0 0 []), (1, .int .i64 i), (2, .fn (.func f) [] [])] ∧ H' = H ∧ n' = n ∧ Yj so t i = Yj so t p) (fun T' _ _ => t.length - iv (T' 1)) ?_ ?_
 ·skip
  exact ⟨p, hp, rfl, rfl, rfl, rfl⟩
 intro T1 H1 n1
 rintro ⟨i, hi, rfl, rfl, rfl, hix⟩
 refine Zb fun K2 hK2 => ?_
 refine Za zs [0, 1, 2, 23] fun K hK => ?_
 try simp only [go_sem, seval, hR1, wdAV]
 repeat refine peel ?_
 refine Zv (args' := [Zo (t.getD i 0)]) hf hbd hn rfl (fun _ => hso (t.getD i 0) _ _) ?_
 try simp only [go_sem, seval]
 repeat refine peel ?_
 apply hK; clear hK K
 refine Zf ?_ ?_ <;> intro hb
 ·skip
  have hb1 : (bif decide ((i : Int) < (t.length : Int)) then so (t.getD i 0) else false) = true := hb
  have hlt : i < t.length := by rcases Nat.lt_or_ge i t.length with h | h; exact h; rw [decide_eq_false (by omega)] at hb1; cases hb1
  have hso1 : so (t.getD i 0) = true := by rw [decide_eq_true (by omega)] at hb1; exact hb1
  have hnext : Yj so t (i + 1) = Yj so t p := by rw [whileF_on hlt hso1, hix]
  refine Zd ?_
  try simp only [go_sem, seval]
  apply hK2
  clear hK2 K2
  refine Zk ?_
  refine Zl zs [0, 1, 2] fun K hK => ?_
  try simp only [go_sem, seval]
  apply hK; clear hK K
  try simp only [go_sem, seval]
  exact ⟨⟨i + 1, by omega, by rw [w1 (by omega)], hnext⟩, by rw [w1 (by omega)]; simp; omega⟩
 have hb1 : (bif decide ((i : Int) < (t.length : Int)) then so (t.getD i 0) else false) = false := hb
 have hres : (i : Int) = ((Yj so t p : Nat) : Int) := by rw [← hix]; rcases Nat.lt_or_ge i t.length with h | h; (rw [decide_eq_true (by omega)] at hb1; rw [whileF_off h hb1]); rw [whileF_end h]
 refine Zz ?_
 try simp only [go_sem, seval]
 apply hK1
 refine Za zs [6] fun K hK => ?_
 try simp only [go_sem, seval]
 apply hK; clear hK K
 refine Ze ?_
 try simp only [go_sem, seval]
 rw [hres]
end Go.Proofs.YtifnhpmeoogedaaGreatDoor
namespace Go.Rt
open Go Go.Sx
theorem Vn (so : UInt8 → Bool) (t : List UInt8) (p : Nat) (hp : p ≤ t.length) : p ≤ Yj so t p ∧ Yj so t p ≤ t.length := by
 unfold Yj
 have h : ((t.drop p).takeWhile so).length ≤ (t.drop p).length := (List.takeWhile_sublist _).length_le
 rw [List.length_drop] at h
 omega
theorem whileF_cut (so : UInt8 → Bool) (t : List UInt8) (p : Nat) : (t.take (Yj so t p)).drop p = (t.drop p).takeWhile so := by
 unfold Yj
 rw [List.drop_take, Nat.add_sub_cancel_left]
 exact (List.prefix_iff_eq_take.1 (List.takeWhile_prefix so)).symm
theorem whileF_pos {so : UInt8 → Bool} {t : List UInt8} {p : Nat} {c : UInt8} {l : List UInt8} (h : t.drop p = c :: l) (hc : so c = true) : p < Yj so t p := by
 unfold Yj
 rw [h, List.takeWhile_cons, if_pos hc, List.length_cons]
 omega
theorem JI (so : UInt8 → Bool) (l : List UInt8) : (l.takeWhile so).length ≤ l.length := (List.takeWhile_sublist _).length_le
theorem WC (c : UInt8) : (Xx c).length ≤ 3 := by
 unfold Xx; split
 ·simp
 ·split <;> simp
theorem Q5 : ∀ (f : Nat) (l : List UInt8) (i : Nat) (s x : List UInt8) (r : List UInt8 × List UInt8 × Nat), strG f l i s x = some r → i < r.2.2 ∧ r.2.2 ≤ i + l.length ∧ r.2.1.length ≤ x.length + 3 * l.length + 1
 | 0, _, _, _, _, _, h => by simp [strG] at h
 | f + 1, l, i, s, x, r, h => by
   unfold strG at h
   split at h
   ·cases h
   ·rename_i c l
    split at h
    ·cases h; simp
    split at h
    ·cases h
    split at h
    ·split at h
     ·cases h
     ·rename_i d l
      split at h
      ·have := Q5 f _ _ _ _ _ h
       have := WC d
       simp only [List.length_append, List.length_cons] at *
       omega
      ·split at h
       ·cases h
       ·rename_i e l
        split at h
        ·rename_i a b _ _
         have := Q5 f _ _ _ _ _ h
         have := WC (UInt8.ofNat (16 * a + b))
         simp only [List.length_append, List.length_cons] at *
         omega
        ·cases h
    ·have := Q5 f _ _ _ _ _ h
     have := WC c
     simp only [List.length_append, List.length_cons] at *
     omega
theorem wordF_len {t : List UInt8} (ht : t.length ≤ 512) {p : Nat} (hp : p ≤ t.length) {w : Wd} {q : Nat} (h : wordF t p = .ok (w, q)) : p ≤ q ∧ q ≤ t.length ∧ (w.kind = 0 → q = t.length) ∧ (w.kind ≠ 0 → p < q) ∧ w.text.length ≤ 2048 := by
 obtain ⟨h1, h2⟩ := Vn (fun c => c.toNat == 32) t p hp
 unfold wordF at h
 simp only at h
 split at h
 ·rename_i hd
  cases h
  have : t.length ≤ Yj (fun c => c.toNat == 32) t p := by
    rcases Nat.lt_or_ge (Yj (fun c => c.toNat == 32) t p) t.length with g | g
    ·rw [List.drop_eq_getElem_cons g] at hd; cases hd
    ·exact g
  refine ⟨h1, h2, fun _ => by omega, fun h => absurd rfl h, by simp⟩
 ·rename_i c l hd
  have hq : Yj (fun c => c.toNat == 32) t p < t.length := by
    rcases Nat.lt_or_ge (Yj (fun c => c.toNat == 32) t p) t.length with g | g
    ·exact g
    ·rw [List.drop_eq_nil_of_le g] at hd; cases hd
  generalize Yj (fun c => c.toNat == 32) t p = k at *
  have hk := congrArg List.length hd
  rw [List.length_drop, List.length_cons] at hk
  split at h
  ·rename_i hs
   cases h
   obtain ⟨g1, g2⟩ := Vn Vg t k (by omega)
   have g3 := whileF_pos (so := Vg) hd (by simp [Vg, hs])
   have g4 := JI Vg (t.drop k)
   rw [List.length_drop] at g4
   exact ⟨by omega, g2, fun h => (by cases h), fun _ => by omega, by show (List.takeWhile Vg _).length ≤ _; omega⟩
  split at h
  ·rename_i hs
   split at h
   ·rename_i x hx
    cases h
    unfold numF at hx
    simp only at hx
    split at hx
    ·cases hx
    ·cases hx
     obtain ⟨g1, g2⟩ := Vn Yp t k (by omega)
     have g3 := whileF_pos (so := Yp) hd hs
     have g4 := JI Yp (t.drop k)
     rw [List.length_drop] at g4
     exact ⟨by omega, g2, fun h => (by cases h), fun _ => by omega, by show (List.takeWhile Yp _).length ≤ _; omega⟩
   ·cases h
  split at h
  ·split at h
   ·rename_i x hx
    cases h
    unfold strF at hx
    rw [Option.map_eq_some_iff] at hx
    obtain ⟨r, hr, he⟩ := hx
    cases he
    have := Q5 _ _ _ _ _ _ hr
    rw [List.length_drop] at this
    simp only [List.length_cons, List.length_nil] at this
    exact ⟨by omega, by omega, fun h => (by cases h), fun _ => by omega, by show r.2.1.length ≤ _; omega⟩
   ·cases h
  ·split at h
   ·rename_i s hs
    cases h
    have hm := List.mem_of_find?_eq_some hs
    have hp2 := List.find?_some hs
    have hpre : s <+: c :: l := by simpa using hp2
    have hl := hpre.length_le
    rw [List.length_cons] at hl
    have hb : 1 ≤ s.length ∧ s.length ≤ 2 := by
      simp only [X7, List.mem_cons, List.not_mem_nil, or_false] at hm
      rcases hm with rfl | rfl | rfl | rfl | rfl | rfl | rfl | rfl | rfl <;> simp
    exact ⟨by omega, by omega, fun h => (by cases h), fun _ => by omega, by show s.length ≤ _; omega⟩
   ·cases h
def Qst.m (t : List UInt8) (s : Qst) : Nat := (t.length - s.far) + (if s.nxt.kind = 0 then 0 else 1)
structure QI (t : List UInt8) (s : Qst) : Prop where
 far : s.far ≤ t.length
 out : s.out.length + s.m t ≤ t.length + 1
 deep : s.deep ≤ 16
 text : ∀ w ∈ s.out, w.text.length ≤ 2048
 next : s.nxt.text.length ≤ 2048
def Qgo (t : List UInt8) (s s' : Qst) : Prop := QI t s' ∧ s'.m t ≤ s.m t ∧ s'.deep = s.deep
theorem Qgo.trans {t : List UInt8} {a b c : Qst} (h : Qgo t a b) (h' : Qgo t b c) : Qgo t a c := ⟨h'.1, Nat.le_trans h'.2.1 h.2.1, h'.2.2.trans h.2.2⟩
theorem YR {t : List UInt8} (ht : t.length ≤ 512) {s : Qst} (hI : QI t s) (hk : s.nxt.kind ≠ 0) {w : Wd} {s' : Qst} (h : Vs t s = .ok (w, s')) : Qgo t s s' ∧ s'.m t + 1 ≤ s.m t ∧ w = s.nxt := by
 unfold Vs Q6 at h
 simp only at h
 cases hw : wordF t s.far with
 | error p => rw [hw] at h; cases h
 | ok x =>
   rw [hw] at h
   have hs : s' = { far := x.2, nxt := x.1, out := s.out ++ [s.nxt], deep := s.deep } ∧ w = s.nxt := by cases h; exact ⟨rfl, rfl⟩
   obtain ⟨rfl, rfl⟩ := hs
   obtain ⟨g1, g2, g3, g4, g5⟩ := wordF_len ht hI.far (w := x.1) (q := x.2) hw
   have hm : ({ far := x.2, nxt := x.1, out := s.out ++ [s.nxt], deep := s.deep } : Qst).m t + 1 ≤ s.m t := by
     unfold Qst.m
     simp only
     rw [if_neg hk]
     split
     ·omega
     ·rename_i hn; have := g4 hn; omega
   refine ⟨⟨⟨g2, ?_, hI.deep, fun w hw2 => ?_, g5⟩, by omega, rfl⟩, hm, rfl⟩
   ·have := hI.out
    show (s.out ++ [s.nxt]).length + _ ≤ _
    rw [List.length_append, List.length_singleton]; omega
   ·rcases List.mem_append.1 hw2 with h1 | h1
    ·exact hI.text w h1
    ·rw [List.mem_singleton.1 h1]; exact hI.next
theorem YY {s : Qst} {w : List UInt8} (h : isF s w = true) : s.nxt.kind ≠ 0 := by
 intro e; simp [isF, e] at h
theorem map_ok {ε α β : Type} {f : α → β} {x : Except ε α} {b : β} (h : x.map f = .ok b) : ∃ a, x = .ok a ∧ f a = b := by
 cases x with
 | error e => cases h
 | ok a => cases h; exact ⟨a, rfl, rfl⟩
theorem bind_ok {ε α β : Type} {f : α → Except ε β} {x : Except ε α} {b : β} (h : x.bind f = .ok b) : ∃ a, x = .ok a ∧ f a = .ok b := by
 cases x with
 | error e => cases h
 | ok a => exact ⟨a, rfl, h⟩
theorem QZ {t : List UInt8} (ht : t.length ≤ 512) {k : Nat} (hk : k ≠ 0) {s : Qst} (hI : QI t s) {w : Wd} {s' : Qst} (h : wantF t k s = .ok (w, s')) : Qgo t s s' := by
 unfold wantF at h
 split at h
 ·rename_i e; exact (YR ht hI (by omega) h).1
 ·cases h
theorem V7 {t : List UInt8} (ht : t.length ≤ 512) {ws : List (List UInt8)} {s : Qst} (hI : QI t s) {w : List UInt8} {s' : Qst} (h : signF t ws s = .ok (w, s')) : Qgo t s s' := by
 unfold signF at h
 split at h
 ·rename_i e
  obtain ⟨a, h1, h2⟩ := map_ok h
  cases h2
  exact (YR ht hI (by omega) (w := a.1) (s' := a.2) h1).1
 ·cases h
theorem Je {t : List UInt8} (ht : t.length ≤ 512) {s : Qst} (hI : QI t s) (hk : s.nxt.kind ≠ 0) {s' : Qst} (h : openF t s = .ok s') : QI t s' ∧ s'.m t + 1 ≤ s.m t ∧ s'.deep = s.deep + 1 := by
 unfold openF at h
 split at h
 ·cases h
 ·rename_i hd
  obtain ⟨a, h1, h2⟩ := map_ok h
  cases h2
  have hI2 : QI t { s with deep := s.deep + 1 } := ⟨hI.far, hI.out, by simp only; omega, hI.text, hI.next⟩
  have h3 := YR ht hI2 hk (w := a.1) (s' := a.2) h1
  exact ⟨h3.1.1, h3.2.1, h3.1.2.2⟩
theorem Qgo.shallow {t : List UInt8} {s : Qst} (hI : QI t s) : QI t { s with deep := s.deep - 1 } := ⟨hI.far, hI.out, by have := hI.deep; simp only; omega, hI.text, hI.next⟩
theorem testF_go {fs : List Fml} {t : List UInt8} (ht : t.length ≤ 512) {s : Qst} (hI : QI t s) {a : Tst} {s' : Qst} (h : testF fs t s = .ok (a, s')) : Qgo t s s' := by
 unfold testF at h
 split at h
 ·rename_i hi
  obtain ⟨x, h1, h⟩ := bind_ok h
  obtain ⟨y, h2, h⟩ := bind_ok h
  have g1 := (YR ht hI (YY hi) (w := x.1) (s' := x.2) h1).1
  have g2 := V7 ht g1.1 (w := y.1) (s' := y.2) h2
  split at h
  ·cases h
  ·rename_i hc
   obtain ⟨z, h3, h⟩ := map_ok h
   cases h
   exact (g1.trans g2).trans (YR ht g2.1 (by omega) (w := z.1) (s' := z.2) h3).1
 split at h
 ·rename_i hi
  have hk : s.nxt.kind ≠ 0 := by rcases hi with hi | hi <;> exact YY hi
  obtain ⟨x, h1, h⟩ := bind_ok h
  obtain ⟨y, h2, h⟩ := bind_ok h
  obtain ⟨z, h3, h⟩ := map_ok h
  cases h
  have g1 := (YR ht hI hk (w := x.1) (s' := x.2) h1).1
  have g2 := V7 ht g1.1 (w := y.1) (s' := y.2) h2
  exact (g1.trans g2).trans (QZ ht (by decide) g2.1 (w := z.1) (s' := z.2) h3)
 split at h
 ·rename_i hi
  obtain ⟨x, h1, h⟩ := bind_ok h
  obtain ⟨y, h2, h⟩ := bind_ok h
  obtain ⟨z, h3, h⟩ := map_ok h
  cases h
  have g1 := (YR ht hI (YY hi) (w := x.1) (s' := x.2) h1).1
  have g2 := V7 ht g1.1 (w := y.1) (s' := y.2) h2
  exact (g1.trans g2).trans (QZ ht (by decide) g2.1 (w := z.1) (s' := z.2) h3)
 ·cases h
section
variable {fs : List Fml} {t : List UInt8}
theorem WZ (ht : t.length ≤ 512) : ∀ f, (∀ s a s', QI t s → condF fs t f s = .ok (a, s') → Qgo t s s') ∧ (∀ b s a s', QI t s → orsF fs t f b s = .ok (a, s') → Qgo t s s') ∧ (∀ s a s', QI t s → termF fs t f s = .ok (a, s') → Qgo t s s') ∧ (∀ b s a s', QI t s → andsF fs t f b s = .ok (a, s') → Qgo t s s') ∧ (∀ s a s', QI t s → Jm fs t f s = .ok (a, s') → Qgo t s s')
 | 0 => by
   refine ⟨?_, ?_, ?_, ?_, ?_⟩ <;> intros <;> rename_i h
   ·simp only [condF] at h; cases h
   ·simp only [orsF] at h; cases h
   ·simp only [termF] at h; cases h
   ·simp only [andsF] at h; cases h
   ·simp only [Jm] at h; cases h
 | f + 1 => by
   obtain ⟨i1, i2, i3, i4, i5⟩ := WZ ht f
   refine ⟨fun s a s' hI h => ?_, fun b s a s' hI h => ?_, fun s a s' hI h => ?_, fun b s a s' hI h => ?_, fun s a s' hI h => ?_⟩
   ·simp only [condF] at h
    obtain ⟨x, h1, h⟩ := bind_ok h
    have g := i3 s x.1 x.2 hI h1
    exact g.trans (i2 _ _ _ _ g.1 h)
   ·simp only [orsF] at h
    split at h
    ·rename_i hi
     obtain ⟨x, h1, h⟩ := bind_ok h
     obtain ⟨y, h2, h⟩ := bind_ok h
     have g := (YR ht hI (YY hi) (w := x.1) (s' := x.2) h1).1
     have g2 := i3 _ y.1 y.2 g.1 h2
     exact (g.trans g2).trans (i2 _ _ _ _ g2.1 h)
    ·cases h; exact ⟨hI, Nat.le_refl _, rfl⟩
   ·simp only [termF] at h
    obtain ⟨x, h1, h⟩ := bind_ok h
    have g := i5 s x.1 x.2 hI h1
    exact g.trans (i4 _ _ _ _ g.1 h)
   ·simp only [andsF] at h
    split at h
    ·rename_i hi
     obtain ⟨x, h1, h⟩ := bind_ok h
     obtain ⟨y, h2, h⟩ := bind_ok h
     have g := (YR ht hI (YY hi) (w := x.1) (s' := x.2) h1).1
     have g2 := i5 _ y.1 y.2 g.1 h2
     exact (g.trans g2).trans (i4 _ _ _ _ g2.1 h)
    ·cases h; exact ⟨hI, Nat.le_refl _, rfl⟩
   ·simp only [Jm] at h
    split at h
    ·rename_i hi
     obtain ⟨x, h1, h⟩ := bind_ok h
     obtain ⟨y, h2, h⟩ := map_ok h
     cases h
     obtain ⟨g1, g2, g3⟩ := Je ht hI (YY hi) h1
     have g4 := i5 _ y.1 y.2 g1 h2
     refine ⟨Qgo.shallow g4.1, ?_, ?_⟩
     ·have e : ({ y.2 with deep := y.2.deep - 1 } : Qst).m t = y.2.m t := rfl
      rw [e]; have := g4.2.1; omega
     ·show y.2.deep - 1 = s.deep
      rw [g4.2.2, g3]; omega
    split at h
    ·rename_i hi
     obtain ⟨x, h1, h⟩ := bind_ok h
     obtain ⟨y, h2, h⟩ := bind_ok h
     obtain ⟨g1, g2, g3⟩ := Je ht hI (YY hi) h1
     have g4 := i1 _ y.1 y.2 g1 h2
     split at h
     ·rename_i hi2
      obtain ⟨z, h3, h⟩ := map_ok h
      cases h
      have g5 := YR ht (Qgo.shallow g4.1) (YY hi2) (w := z.1) (s' := z.2) h3
      have e : ({ y.2 with deep := y.2.deep - 1 } : Qst).m t = y.2.m t := rfl
      refine ⟨g5.1.1, ?_, ?_⟩
      ·have h6 := g5.1.2.1; rw [e] at h6; have := g4.2.1; omega
      ·have h6 := g5.1.2.2
       show z.2.deep = s.deep
       rw [h6]
       show y.2.deep - 1 = s.deep
       rw [g4.2.2, g3]; omega
     ·cases h
    ·exact testF_go ht hI h
end
section
variable {t : List UInt8} {f i : Nat} {s x : List UInt8}
theorem drop_at (h : i < t.length) : t.drop i = t.getD i 0 :: t.drop (i + 1) := by
 rw [List.drop_eq_getElem_cons h]
 simp [List.getD, h]
theorem strG_end (h : t.length ≤ i) : strG (f + 1) (t.drop i) i s x = none := by
 rw [List.drop_eq_nil_of_le h]; rfl
theorem strG_quote (h : i < t.length) (hc : (t.getD i 0).toNat = 34) : strG (f + 1) (t.drop i) i s x = some (s, x ++ [34], i + 1) := by
 rw [drop_at h]; unfold strG; simp only; rw [if_pos hc]
theorem strG_bad (h : i < t.length) (h0 : ¬ (t.getD i 0).toNat = 34) (hc : (t.getD i 0).toNat < 32 ∨ 126 < (t.getD i 0).toNat) : strG (f + 1) (t.drop i) i s x = none := by
 rw [drop_at h]; unfold strG; simp only; rw [if_neg h0, if_pos hc]
theorem strG_plain (h : i < t.length) (h0 : ¬ (t.getD i 0).toNat = 34) (h1 : ¬ ((t.getD i 0).toNat < 32 ∨ 126 < (t.getD i 0).toNat)) (h2 : ¬ (t.getD i 0).toNat = 92) :
   strG (f + 1) (t.drop i) i s x = strG f (t.drop (i + 1)) (i + 1) (s ++ [t.getD i 0]) (x ++ Xx (t.getD i 0)) := by
 rw [drop_at h]; conv => lhs; unfold strG
 simp only; rw [if_neg h0, if_neg h1, if_neg h2]
theorem strG_esc0 (h : i < t.length) (hc : (t.getD i 0).toNat = 92) (hl : t.length ≤ i + 1) : strG (f + 1) (t.drop i) i s x = none := by
 rw [drop_at h, List.drop_eq_nil_of_le hl]; unfold strG; simp only; rw [if_neg (by omega), if_neg (by omega), if_pos hc]
theorem strG_esc1 (h : i + 1 < t.length) (hc : (t.getD i 0).toNat = 92) (hd : (t.getD (i + 1) 0).toNat = 34 ∨ (t.getD (i + 1) 0).toNat = 92) :
   strG (f + 1) (t.drop i) i s x = strG f (t.drop (i + 2)) (i + 2) (s ++ [t.getD (i + 1) 0]) (x ++ Xx (t.getD (i + 1) 0)) := by
 rw [drop_at (by omega : i < t.length), drop_at h]; conv => lhs; unfold strG
 simp only; rw [if_neg (by omega), if_neg (by omega), if_pos hc, if_pos hd]
theorem strG_esc2 (h : i + 1 < t.length) (hc : (t.getD i 0).toNat = 92) (hd : ¬ ((t.getD (i + 1) 0).toNat = 34 ∨ (t.getD (i + 1) 0).toNat = 92)) (hl : t.length ≤ i + 2) :
   strG (f + 1) (t.drop i) i s x = none := by
 rw [drop_at (by omega : i < t.length), drop_at h, List.drop_eq_nil_of_le hl]; unfold strG
 simp only; rw [if_neg (by omega), if_neg (by omega), if_pos hc, if_neg hd]
theorem strG_esc3 (h : i + 2 < t.length) (hc : (t.getD i 0).toNat = 92) (hd : ¬ ((t.getD (i + 1) 0).toNat = 34 ∨ (t.getD (i + 1) 0).toNat = 92)) (hx : hexV (t.getD (i + 1) 0) = none ∨ hexV (t.getD (i + 2) 0) = none) :
   strG (f + 1) (t.drop i) i s x = none := by
 rw [drop_at (by omega : i < t.length), drop_at (by omega : i + 1 < t.length), drop_at h]; unfold strG
 simp only; rw [if_neg (by omega), if_neg (by omega), if_pos hc, if_neg hd]
 rcases hx with hx | hx
 ·rw [hx]
 ·rw [hx]; cases hexV (t.getD (i + 1) 0) <;> rfl
theorem strG_esc4 (h : i + 2 < t.length) (hc : (t.getD i 0).toNat = 92) (hd : ¬ ((t.getD (i + 1) 0).toNat = 34 ∨ (t.getD (i + 1) 0).toNat = 92)) {a b : Nat} (ha : hexV (t.getD (i + 1) 0) = some a) (hb : hexV (t.getD (i + 2) 0) = some b) :
   strG (f + 1) (t.drop i) i s x = strG f (t.drop (i + 3)) (i + 3) (s ++ [UInt8.ofNat (16 * a + b)]) (x ++ Xx (UInt8.ofNat (16 * a + b))) := by
 rw [drop_at (by omega : i < t.length), drop_at (by omega : i + 1 < t.length), drop_at h]; conv => lhs; unfold strG
 simp only; rw [if_neg (by omega), if_neg (by omega), if_pos hc, if_neg hd, ha, hb]
theorem hexV_lt {c : UInt8} {a : Nat} (h : hexV c = some a) : a < 16 := by
 unfold hexV Yp at h
 split at h
 ·rename_i hc; cases h; simp at hc; omega
 ·split at h
  ·cases h; omega
  ·cases h
end
instance : Inhabited Wd := ⟨⟨0, 0, [], 0, []⟩⟩
def X3 (o : Option Wd) (w : Wd) : List UInt8 := match o with | none => [] | some v => if w.text ≠ [41] ∧ v.text ≠ [40] then [32] else []
theorem U1 (o : Option Wd) (w : Wd) (l : List Wd) : X8 o (w :: l) = X3 o w ++ w.text ++ X8 (some w) l := by
 cases o with
 | none => rfl
 | some v => rfl
theorem canonG_snoc : ∀ (l : List Wd) (o : Option Wd) (w : Wd), X8 o (l ++ [w]) = X8 o l ++ (X3 (match l.getLast? with | some v => some v | none => o) w ++ w.text)
 | [], o, w => by cases o <;> simp [X8, X3]
 | v :: l, o, w => by
   rw [List.cons_append, U1, U1, canonG_snoc l (some v) w]
   have e : (match (v :: l).getLast? with | some u => some u | none => o) = (match l.getLast? with | some u => some u | none => some v) := by
     rw [List.getLast?_cons]
     cases l.getLast? <;> rfl
   rw [e]; simp [List.append_assoc]
theorem canonG_take (l : List Wd) {i : Nat} (h : i < l.length) : X8 none (l.take (i + 1)) = X8 none (l.take i) ++ (X3 (if i = 0 then none else some (l.getD (i - 1) default)) (l.getD i default) ++ (l.getD i default).text) := by
 have e : l.take (i + 1) = l.take i ++ [l.getD i default] := by
   rw [List.take_succ_eq_append_getElem h]; simp [List.getD, List.getElem?_eq_getElem h]
 rw [e, canonG_snoc]
 have e2 : (l.take i).getLast? = if i = 0 then none else some (l.getD (i - 1) default) := by
   by_cases hi : i = 0
   ·subst hi; rfl
   ·rw [if_neg hi, List.getLast?_eq_getElem?, List.length_take, Nat.min_eq_left (by omega), List.getElem?_take_of_lt (by omega), List.getElem?_eq_getElem (by omega)]
    simp [List.getD, List.getElem?_eq_getElem (show i - 1 < l.length by omega)]
 rw [e2]
 by_cases hi : i = 0 <;> simp [hi]
theorem canonSep_len (o : Option Wd) (w : Wd) : (X3 o w).length ≤ 1 := by
 unfold X3
 cases o with
 | none => simp
 | some v => simp only; split <;> simp
theorem canonG_len : ∀ (l : List Wd) (o : Option Wd), (∀ w ∈ l, w.text.length ≤ 2048) → (X8 o l).length ≤ 2049 * l.length
 | [], o, _ => by cases o <;> simp [X8]
 | w :: l, o, h => by
   have h1 := canonG_len l (some w) fun x hx => h x (by simp [hx])
   have h2 := h w (by simp)
   have h3 := canonSep_len o w
   rw [U1]
   simp only [List.length_append, List.length_cons]
   omega
theorem Y7 {ε α β : Type} (a : α) (f : α → Except ε β) : (Except.ok a : Except ε α).bind f = f a := rfl
theorem QO {ε α β : Type} (a : α) (f : α → β) : (Except.ok a : Except ε α).map f = .ok (f a) := rfl
theorem er_map {ε α β : Type} (a : ε) (f : α → β) : (Except.error a : Except ε α).map f = .error a := rfl
theorem QI.outs {t : List UInt8} {s : Qst} (h : QI t s) (ht : t.length ≤ 512) : s.out.length ≤ 1000000 := by have := h.out; omega
end Go.Rt
namespace Go.Proofs.YtifnhpmeoogedaaGreatDoor
open Go Go.Sx Go.Rt Go.Proofs Tryz
theorem Xq (fs : List Fml) (t : List UInt8) (s : Qst) (kr ko ver : Nat) (w : List UInt8) (H : Heap) (n : Nat) (hR : H kr = some (qdO fs t s ko ver)) :
   Ret prog 186 [.loc kr 0 0 0 [], .str w] H n (.bool (isF s w)) H n := by
 have hR1 := hR
 unfold qdO at hR1
 have hszs : (Zu fs).sz = 1 := rfl
 have hszb : ∀ b, (bys b).sz = 1 := fun _ => rfl
 refine Zc func186 rfl ntmps186 (congrArg Array.toList results186) (by simp) ?_
 simp only [go_sem]
 refine Za zs [0, 1] fun K hK => ?_
 try simp only [go_sem, seval]
 apply hK; clear hK K
 refine Za zs [4] fun K hK => ?_
 try simp only [go_sem, seval, hR1, wdAV]
 repeat refine peel ?_
 apply hK; clear hK K
 refine Ze ?_
 try simp only [go_sem, seval]
 unfold isF; have i1 : ((s.nxt.kind : Int) == 1) = (s.nxt.kind == 1) := by rw [Bool.eq_iff_iff, beq_iff_eq, beq_iff_eq]; omega
 have i2 : ((s.nxt.kind : Int) == 4) = (s.nxt.kind == 4) := by rw [Bool.eq_iff_iff, beq_iff_eq, beq_iff_eq]; omega
 simp_all
theorem kl_wdAV (w : Wd) (n : Nat) : (wdAV w).kl n := ⟨trivial, trivial, trivial, trivial, ZH _ _, trivial⟩
theorem kl_schQ (s : List Fml) (n : Nat) : (Zu s).kl n := by
 unfold Zu
 exact ⟨Xp XD (fun x => ⟨trivial, trivial, trivial, trivial⟩) s, trivial⟩
def outO (s : Qst) (ver : Nat) : AObj := .arr ver 5 (s.out.map wdAV)
def qst (fs : List Fml) (t : List UInt8) (kr ko : Nat) (s : Qst) (ver : Nat) (H : Heap) : Heap := (H.put ko (some (outO s ver))).put kr (some (qdO fs t s ko ver))
def QdK (fs : List Fml) (t : List UInt8) (kr ko : Nat) (H : Heap) (n : Nat) (r : Except Nat (AV × Qst)) (res : ARes) (H' : Heap) (n' : Nat) : Prop :=
 match r with
 | .ok x => ∃ ver, res = .val x.1 ∧ H' = qst fs t kr ko x.2 ver H ∧ n' = n
 | .error p => res = .pan (Uj p) ∧ n ≤ n' ∧ ∀ k, k < n → k ≠ kr → k ≠ ko → H' k = H k
theorem QdK.val {fs : List Fml} {t : List UInt8} {kr ko : Nat} {H : Heap} {n : Nat} {r : Except Nat (AV × Qst)} {v : AV} {H' : Heap} {n' : Nat} (h : QdK fs t kr ko H n r (.val v) H' n') : ∃ s ver, r = .ok (v, s) ∧ H' = qst fs t kr ko s ver H ∧ n' = n := by
 cases r with
 | ok x => obtain ⟨ver, h1, h2, h3⟩ := h; cases h1; exact ⟨x.2, ver, rfl, h2, h3⟩
 | error p => cases h.1
theorem QdK.pan {fs : List Fml} {t : List UInt8} {kr ko : Nat} {H : Heap} {n : Nat} {r : Except Nat (AV × Qst)} {v : AV} {H' : Heap} {n' : Nat} (h : QdK fs t kr ko H n r (.pan v) H' n') : ∃ p, r = .error p ∧ v = Uj p ∧ n ≤ n' ∧ ∀ k, k < n → k ≠ kr → k ≠ ko → H' k = H k := by
 cases r with
 | ok x => obtain ⟨ver, h1, _⟩ := h; cases h1
 | error p => obtain ⟨h1, h2, h3⟩ := h; cases h1; exact ⟨p, rfl, rfl, h2, h3⟩
def qdAV (fs : List Fml) (t : List UInt8) (s : Qst) (ko ver : Nat) : AV := .agg [Zu fs, .str t, .int .i64 s.far, wdAV s.nxt, .osl ko ver 0 s.out.length, .int .i64 s.deep]
theorem Jk (fs : List Fml) (t : List UInt8) (s : Qst) {ko ver n : Nat} (hk : ko < n) : (qdAV fs t s ko ver).kl n := ⟨kl_schQ fs n, trivial, trivial, kl_wdAV _ n, hk, trivial, trivial⟩
structure QdH (fs : List Fml) (t : List UInt8) (kr ko : Nat) (s : Qst) (ver : Nat) (H : Heap) (n : Nat) : Prop where
 lr : kr < n
 lo : ko < n
 ne : kr ≠ ko
 r : H kr = some (qdO fs t s ko ver)
 o : H ko = some (outO s ver)
section
variable {fs : List Fml} {t : List UInt8} {kr ko : Nat} {s s' : Qst} {ver ver' : Nat} {H H' : Heap} {n n' : Nat}
theorem QdH.on (h : QdH fs t kr ko s ver H n) (h1 : H' kr = H kr) (h2 : H' ko = H ko) (hn : n ≤ n') : QdH fs t kr ko s ver H' n' :=
 ⟨Nat.lt_of_lt_of_le h.lr hn, Nat.lt_of_lt_of_le h.lo hn, h.ne, h1.trans h.r, h2.trans h.o⟩
theorem QdH.low (h : QdH fs t kr ko s ver H n) (hl : ∀ k, k < n → H' k = H k) (hn : n ≤ n') : QdH fs t kr ko s ver H' n' := h.on (hl _ h.lr) (hl _ h.lo) hn
theorem QdH.turn (h : QdH fs t kr ko s ver H n) (s' : Qst) (ver' : Nat) : QdH fs t kr ko s' ver' (qst fs t kr ko s' ver' H) n :=
 ⟨h.lr, h.lo, h.ne, Heap.put_same _ _ _, by unfold qst; rw [Heap.put_ne _ _ h.ne.symm, Heap.put_same]⟩
theorem QdK.get {r : Except Nat (AV × Qst)} {v : AV} {s0 : Qst} {ver0 : Nat} (hk : QdK fs t kr ko H n r (.val v) H' n') (h : QdH fs t kr ko s0 ver0 H n) : ∃ s ver, r = .ok (v, s) ∧ QdH fs t kr ko s ver H' n ∧ n' = n ∧ ∀ k, k ≠ kr → k ≠ ko → H' k = H k := by
 obtain ⟨s, ver, h1, rfl, rfl⟩ := hk.val
 exact ⟨s, ver, h1, h.turn s ver, rfl, fun k e1 e2 => by unfold qst; rw [Heap.put_ne _ _ e1, Heap.put_ne _ _ e2]⟩
def QdE (fs : List Fml) (t : List UInt8) (kr ko : Nat) (H : Heap) (n : Nat) (r : Except Nat (AV × Qst)) (res : ARes) (H1 : Heap) (n' : Nat) : Prop :=
 (∃ v v' s ver a, res = .val v ∧ r = .ok (v', s) ∧ H1 kr = some (.arr 0 10 [a]) ∧ Frz H1 n a (qdAV fs t s ko ver) ∧ H1 ko = some (outO s ver) ∧ (∀ k, k < n → k ≠ kr → k ≠ ko → H1 k = H k) ∧ Frz H1 n v v') ∨ (∃ p, r = .error p ∧ res = .pan (Uj p) ∧ n ≤ n' ∧ ∀ k, k < n → k ≠ kr → k ≠ ko → H1 k = H k)
theorem QdE.err {r : Except Nat (AV × Qst)} {p : Nat} (hr : r = .error p) (hn : n ≤ n') (hl : ∀ k, k < n → k ≠ kr → k ≠ ko → H' k = H k) : QdE fs t kr ko H n r (.pan (Uj p)) H' n' := .inr ⟨p, hr, rfl, hn, hl⟩
theorem QdE.val {r : Except Nat (AV × Qst)} {v v' a : AV} {s : Qst} {ver : Nat} (hr : r = .ok (v', s)) (h1 : H' kr = some (.arr 0 10 [a])) (h2 : Frz H' n a (qdAV fs t s ko ver)) (h3 : H' ko = some (outO s ver)) (hl : ∀ k, k < n → k ≠ kr → k ≠ ko → H' k = H k) (hf : Frz H' n v v') : QdE fs t kr ko H n r (.val v) H' n' := .inl ⟨v, v', s, ver, a, rfl, hr, h1, h2, h3, hl, hf⟩
theorem QdE.ok {r : Except Nat (AV × Qst)} {v v' : AV} {s : Qst} {ver m : Nat} (hr : r = .ok (v', s)) (h : QdH fs t kr ko s ver H' m) (hk : ko < n) (hl : ∀ k, k < n → k ≠ kr → k ≠ ko → H' k = H k) (hf : Frz H' n v v') : QdE fs t kr ko H n r (.val v) H' n' := .inl ⟨v, v', s, ver, _, rfl, hr, h.r, .kl (Jk fs t s hk), h.o, hl, hf⟩
theorem QdK.up {r : Except Nat (AV × Qst)} {v : AV} {H2 : Heap} {n2 : Nat} {r0 : Except Nat (AV × Qst)} (h : QdK fs t kr ko H' n' r (.pan v) H2 n2) (hr : ∀ p, r = .error p → r0 = .error p) (hn : n ≤ n') (hl : ∀ k, k < n → k ≠ kr → k ≠ ko → H' k = H k) : QdE fs t kr ko H n r0 (.pan v) H2 n2 := by
 obtain ⟨p, h1, rfl, h2, h3⟩ := h.pan
 exact QdE.err (hr p h1) (Nat.le_trans hn h2) fun k e1 e2 e3 => (h3 k (Nat.lt_of_lt_of_le e1 hn) e2 e3).trans (hl k e1 e2 e3)
theorem QdK.fin {P : Program} {f : FuncId} {args : List AV} {r : Except Nat (AV × Qst)} (hk : kr < n) (hk2 : ko < n) (hne : kr ≠ ko) (h : Zx P f args H n (QdE fs t kr ko H n r)) : Zx P f args H n (QdK fs t kr ko H n r) :=
 Zx.finL (h.mono fun res H1 n' hd => by
   rcases hd with ⟨v, v', s, ver, a, h1, h2, h3, h4, h5, h6, h7⟩ | ⟨p, h1, h2, h3, h4⟩
   ·refine .inl ⟨v, v', qst fs t kr ko s ver H, h1, fun k hk3 => ?_, fun k hk3 => ?_, h7, ?_⟩
    ·unfold qst
     by_cases e : k = kr
     ·subst e
      exact .inr ⟨0, 10, [a], [qdAV fs t s ko ver], h3, Heap.put_same _ _ _, .cons h4 .nil⟩
     ·rw [LowO, Heap.put_ne _ _ e]
      by_cases e2 : k = ko
      ·subst e2
       rw [Heap.put_same, h5]
       exact .inl ⟨rfl, .inr fun o ho => by cases ho; exact Xp wdAV (fun x => kl_wdAV x n) _⟩
      ·rw [Heap.put_ne _ _ e2, h6 k hk3 e e2]
       exact .inl ⟨rfl, .inl rfl⟩
    ·unfold qst
     rw [Heap.put_ne _ _ (by omega), Heap.put_ne _ _ (by omega)]
    ·rw [h2]; exact ⟨ver, rfl, rfl, rfl⟩
   ·exact .inr ⟨_, h2, by rw [h1]; exact ⟨rfl, h3, h4⟩⟩)
end
def digN (l : List UInt8) : Nat := l.foldl (fun n c => 10 * n + (c.toNat - 48)) 0
theorem digN_snoc (l : List UInt8) (c : UInt8) : digN (l ++ [c]) = 10 * digN l + (c.toNat - 48) := by simp [digN]
theorem digN_lt' : ∀ (l : List UInt8) (a : Nat), (∀ c ∈ l, Yp c = true) → l.foldl (fun n c => 10 * n + (c.toNat - 48)) a < (a + 1) * 10 ^ l.length
 | [], a, _ => by simp
 | c :: l, a, h => by
   have ih := digN_lt' l (10 * a + (c.toNat - 48)) fun x hx => h x (by simp [hx])
   have h2 := h c (by simp)
   unfold Yp at h2
   simp only [Bool.and_eq_true, decide_eq_true_eq] at h2
   rw [List.foldl_cons, List.length_cons, Nat.pow_succ, Nat.mul_comm (10 ^ l.length), ← Nat.mul_assoc]
   exact Nat.lt_of_lt_of_le ih (Nat.mul_le_mul_right _ (by omega))
theorem digN_lt (l : List UInt8) (h : ∀ c ∈ l, Yp c = true) : digN l < 10 ^ l.length := by
 have := digN_lt' l 0 h
 simpa [digN] using this
theorem digN_step {l : List UInt8} (hl : ∀ c ∈ l, Yp c = true) {i : Nat} (h : i < l.length) (h14 : i < 14) : digN (l.take i) < 100000000000000 ∧ 48 ≤ (l.getD i 0).toNat ∧ (l.getD i 0).toNat ≤ 57 ∧ digN (l.take (i + 1)) = 10 * digN (l.take i) + ((l.getD i 0).toNat - 48) := by
 have h1 := digN_lt (l.take i) fun c hc => hl c (List.mem_of_mem_take hc)
 have h2 : 10 ^ (l.take i).length ≤ 10 ^ 14 := Nat.pow_le_pow_right (by omega) (by rw [List.length_take]; omega)
 have e : l.getD i 0 = l[i] := by simp [List.getD, h]
 have h3 := hl l[i] (List.getElem_mem h)
 unfold Yp at h3
 simp only [Bool.and_eq_true, decide_eq_true_eq] at h3
 refine ⟨by omega, by rw [e]; omega, by rw [e]; omega, ?_⟩
 rw [List.take_succ_eq_append_getElem h, digN_snoc, e]
theorem numF_eq (t : List UInt8) (p : Nat) : numF t p = if 1099511627776 < digN (((t.drop p).takeWhile Yp).take 14) ∨ (1 < ((t.drop p).takeWhile Yp).length ∧ ((t.drop p).takeWhile Yp).getD 0 0 = 48) then none else some (⟨2, p, (t.drop p).takeWhile Yp, digN (((t.drop p).takeWhile Yp).take 14), []⟩, Yj Yp t p) := rfl
theorem c_query_number (fs : List Fml) (t : List UInt8) (s : Qst) (kr ko ver : Nat) (ht : t.length ≤ 512) (p : Nat) (hp : p ≤ t.length) (H : Heap) (n : Nat) (h : QdH fs t kr ko s ver H n) :
   Zx prog 182 [.loc kr 0 0 0 [], .int .i64 p] H n (QdK fs t kr ko H n (match numF t p with | some x => .ok (wdAV x.1, { s with far := x.2 }) | none => .error p)) := by
 have hR := h.r
 have hR1 := hR
 unfold qdO at hR1
 have hk := h.lr
 have hko := h.lo
 have hne := h.ne
 have hszs : (Zu fs).sz = 1 := rfl
 have hszb : ∀ b, (bys b).sz = 1 := fun _ => rfl
 have hkn : kr ≠ n := by omega
 have hnk : n ≠ kr := by omega
 obtain ⟨hw1, hw2⟩ := Vn Yp t p hp
 have hcut := whileF_cut Yp t p
 have hdl := JI Yp (t.drop p)
 rw [List.length_drop] at hdl
 have hds : ∀ c ∈ (t.drop p).takeWhile Yp, Yp c = true := fun c hc => by
   have := List.all_takeWhile (p := Yp) (l := t.drop p)
   exact List.all_eq_true.1 this c hc
 obtain ⟨r, hr⟩ : ∃ r, r = (match numF t p with | some x => .ok (wdAV x.1, { s with far := x.2 }) | none => .error p : Except Nat (AV × Qst)) := ⟨_, rfl⟩
 rw [← hr]
 rw [numF_eq] at hr
 generalize (t.drop p).takeWhile Yp = d at *
 refine QdK.fin hk hko hne ?_
 refine Zc func182 rfl ntmps182 (congrArg Array.toList results182) (by simp) ?_
 simp only [go_sem]
 refine Za zs [0, 1, 4] fun K hK => ?_
 try simp only [go_sem, seval]
 apply hK; clear hK K
 refine Za zs [0, 1, 4] fun K hK => ?_
 try simp only [go_sem, seval]
 refine Zg func177 rfl rfl rfl ((VZ fs t s kr ko ver ht p hp Yp _ func181 rfl rfl _ _ (fun b _ _ => V3 b _ _) (by simp [Heap.put, hkn, hR]))) ?_
 try simp only [go_sem, seval, hR1, wdAV, hkn]
 apply hK; clear hK K
 refine YF rfl zs [1, 4, 5] [.m, .q, .q, .q, .m, .m, .q, .q, .q, .q, .q] (by kernel_rfl) (fun _ _ _ _ _ h => h) fun K hK => ?_
 try simp only [go_sem, seval, Option.getD_some, Int.toNat_natCast, hcut]
 repeat refine peel ?_
 apply hK; clear hK K
 refine Za zs [1, 4, 5, 6] fun K hK => ?_
 try simp only [go_sem, seval]
 apply hK; clear hK K
 refine Zb fun K1 hK1 => ?_
 refine Za zs [1, 4, 5, 6, 7] fun K hK => ?_
 try simp only [go_sem, seval]
 apply hK; clear hK K
 refine Zk ?_
 refine Zy (fun T' H' n' => ∃ i : Nat, i ≤ d.length ∧ i ≤ 14 ∧ T' = tl [(1, .int .i64 p), (4, .loc n 0 0 0 []), (5, .str d), (6, .int .i64 (digN (d.take i))), (7, .int .i64 i)] ∧ H' = (H.put n (some (.arr 0 5 [.agg [.int .i64 0, .int .i64 0, .str [], .int .i64 0, .nilsl]]))).put kr (some (qdO fs t { s with far := Yj Yp t p } ko ver)) ∧ n' = n + 1) (fun T' _ _ => 14 - iv (T' 7)) ?_ ?_
 ·skip
  exact ⟨0, by omega, by omega, rfl, rfl, rfl⟩
 intro T1 H1 n1
 rintro ⟨i, hi, hi14, rfl, rfl, rfl⟩
 refine Zb fun K2 hK2 => ?_
 refine Za zs [1, 4, 5, 6, 7, 31] fun K hK => ?_
 try simp only [go_sem, seval]
 repeat refine peel ?_
 apply hK; clear hK K
 refine Zf ?_ ?_ <;> intro hb
 ·skip
  have hb1 : i < d.length ∧ i < 14 := by have hb0 : i < d.length ∧ (i : Int) < 14 := (by simpa using hb); exact ⟨hb0.1, by omega⟩
  obtain ⟨g1, g2, g3, g4⟩ := digN_step hds hb1.1 hb1.2
  have e1 : IntKind.u8.wrap ((((d.getD i 0).toNat : Nat) : Int) - 48) = (((d.getD i 0).toNat - 48 : Nat) : Int) := by rw [IntKind.wrap_u8]; omega
  have e2 : IntKind.i64.wrap (10 * ((digN (d.take i) : Nat) : Int)) = ((10 * digN (d.take i) : Nat) : Int) := by rw [w64 (by omega) (by omega)]; omega
  have e3 : IntKind.i64.wrap ((((d.getD i 0).toNat - 48 : Nat) : Int)) = (((d.getD i 0).toNat - 48 : Nat) : Int) := w64 (by omega) (by omega)
  have e4 : IntKind.i64.wrap (((10 * digN (d.take i) : Nat) : Int) + (((d.getD i 0).toNat - 48 : Nat) : Int)) = ((digN (d.take (i + 1)) : Nat) : Int) := by rw [w64 (by omega) (by omega)]; omega
  refine Zd ?_
  try simp only [go_sem, seval]
  apply hK2
  clear hK2 K2
  refine Zb fun K3 hK3 => ?_
  refine Zk ?_
  refine Zl zs [1, 4, 5, 6, 7] fun K hK => ?_
  try simp only [go_sem, seval]
  repeat refine peel ?_
  apply hK; clear hK K
  try simp only [go_sem, seval]
  apply hK3
  clear hK3 K3
  refine Zl zs [1, 4, 5, 6, 7] fun K hK => ?_
  try simp only [go_sem, seval]
  apply hK; clear hK K
  try simp only [go_sem, seval]
  refine ⟨⟨i + 1, by omega, by omega, ?_⟩, by rw [w1 (by omega)]; simp; omega⟩
  rw [Int.toNat_natCast, e1, e2, e3, e4, w1 (by omega)]
 have htk : d.take i = d.take 14 := by
   have hb0 : ¬ (i < d.length ∧ i < 14) := (by intro hc; have : ((i : Int) < 14) := (by omega); simp [hc.1, this] at hb)
   by_cases h14 : i = 14
   ·rw [h14]
   ·rw [List.take_of_length_le (by omega), List.take_of_length_le (by omega)]
 have hbad : (bif decide (1099511627776 < ((digN (d.take i) : Nat) : Int)) then true else bif decide (1 < (d.length : Int)) then (((d.getD 0 0).toNat : Nat) : Int) == 48 else false) = decide (1099511627776 < digN (d.take 14) ∨ (1 < d.length ∧ d.getD 0 0 = 48)) := by
   rw [htk]
   have q1 : decide (1099511627776 < ((digN (d.take 14) : Nat) : Int)) = decide (1099511627776 < digN (d.take 14)) := decide_eq_decide.2 (by omega)
   have q2 : decide (1 < (d.length : Int)) = decide (1 < d.length) := decide_eq_decide.2 (by omega)
   have q3 : ((((d.getD 0 0).toNat : Nat) : Int) == 48) = decide (d.getD 0 0 = 48) := by rw [Bool.eq_iff_iff, beq_iff_eq, decide_eq_true_eq]; constructor; (intro hh; exact UInt8.toNat_inj.1 (by show _ = 48; omega)); (intro hh; rw [hh]; rfl)
   rw [q1, q2, q3]
   by_cases c1 : 1099511627776 < digN (d.take 14) <;> by_cases c2 : 1 < d.length <;> simp [c1, c2]
 refine Zz ?_
 try simp only [go_sem, seval]
 apply hK1
 refine Zb fun K4 hK4 => ?_
 refine Za zs [1, 4, 5, 6, 53] fun K hK => ?_
 try simp only [go_sem, seval]
 repeat (first | refine peel ?_ | refine ⟨by (intro hx; simp at hx; omega), ?_⟩)
 apply hK; clear hK K
 refine Zf ?_ ?_ <;> intro hb
 ·skip
  have hbad1 : (1099511627776 < digN (d.take 14) ∨ (1 < d.length ∧ d.getD 0 0 = 48)) := of_decide_eq_true (hbad ▸ hb)
  refine Zl zs [1, 4, 5, 6] fun K hK => ?_
  try simp only [go_sem, seval]
  refine Zi (args' := [.int .i64 p]) func163 rfl rfl rfl (Yn p _ _) ?_ ?_
  ·skip
   rintro rr H' n' ⟨rfl, rfl, h1⟩
   cases h1
  rintro q H' n' ⟨rfl, rfl, h1⟩
  cases h1
  refine QdE.err ?_ (by omega) ?_
  ·rw [hr, if_pos hbad1]
  ·intro k e1 e2 e3; rw [Heap.put_ne _ _ e2, Heap.put_ne _ _ (by omega)]
 have hbad1 : ¬ (1099511627776 < digN (d.take 14) ∨ (1 < d.length ∧ d.getD 0 0 = 48)) := of_decide_eq_false (hbad ▸ hb)
 refine Zd ?_
 try simp only [go_sem, seval]
 apply hK4
 clear hK4 K4
 refine Za zs [4] fun K hK => ?_
 try simp only [go_sem, seval, hnk]
 repeat refine peel ?_
 apply hK; clear hK K
 refine Ze ?_
 try simp only [go_sem, seval]
 rw [if_neg hbad1] at hr
 refine QdE.val hr (by rw [Heap.put_ne _ _ hkn, Heap.put_same]; rfl) (.kl (Jk fs t _ hko)) ?_ ?_ ?_
 ·rw [Heap.put_ne _ _ (by omega), Heap.put_ne _ _ hne.symm, Heap.put_ne _ _ (by omega)]; exact h.o
 ·intro k e1 e2 e3; rw [Heap.put_ne _ _ (by omega), Heap.put_ne _ _ e2, Heap.put_ne _ _ (by omega)]
 ·rw [htk]; exact .agg (.cons (.kl trivial) (.cons (.kl trivial) (.cons (.kl trivial) (.cons (.kl trivial) (.cons .nilsl .nil)))))
structure StrS (H : Heap) (n p : Nat) (s x : List UInt8) (v2 v3 : Nat) (H' : Heap) : Prop where
 r : H' n = some (.arr 0 5 [.agg [.int .i64 0, .int .i64 0, .str [], .int .i64 0, .nilsl]])
 w : H' (n + 1) = some (.arr 0 5 [.agg [.int .i64 3, .int .i64 p, .str [], .int .i64 0, .osl (n + 3) v3 0 s.length]])
 x : H' (n + 2) = some (.arr v2 1 (x.map Zo))
 s : H' (n + 3) = some (.arr v3 1 (s.map Zo))
 low : ∀ k, k < n → H' k = H k
theorem hexV_none {c : UInt8} (h : hexI c < 0) : hexV c = none := by
 unfold hexI at h
 cases e : hexV c with
 | none => rfl
 | some x => rw [e] at h; simp only at h; omega
theorem hexI_some {c : UInt8} (h : 0 ≤ hexI c) : ∃ a, hexV c = some a ∧ hexI c = ((a : Nat) : Int) := by
 unfold hexI at h ⊢
 cases e : hexV c with
 | none => rw [e] at h; exact absurd h (by decide)
 | some x => exact ⟨x, rfl, rfl⟩
theorem and15 (c : UInt8) : intBits .and .u8 (c.toNat : Int) 15 = ((c.toNat % 16 : Nat) : Int) := by
 have key : ∀ r : Fin 256, intBits .and .u8 ((r.1 : Nat) : Int) 15 = ((r.1 % 16 : Nat) : Int) := by decide +kernel
 exact key ⟨c.toNat, c.toNat_lt⟩
theorem shr4 (c : UInt8) : ((c.toNat : Nat) : Int).fdiv (2 ^ min 4 8) = ((c.toNat / 16 : Nat) : Int) := by
 rw [show (2 : Int) ^ (min 4 8) = 16 by decide, Int.fdiv_eq_ediv_of_nonneg _ (by decide)]
 omega
theorem or_hex {a b : Nat} (ha : a < 16) (hb : b < 16) : IntKind.u8.wrap (intBits .or .i64 (IntKind.i64.wrap ((a : Int) * 2 ^ (min 4 64))) (b : Int)) = ((UInt8.ofNat (16 * a + b)).toNat : Int) := by
 have key : ∀ (x y : Fin 16), IntKind.u8.wrap (intBits .or .i64 (IntKind.i64.wrap (((x.1 : Nat) : Int) * 2 ^ (min 4 64))) ((y.1 : Nat) : Int)) = ((UInt8.ofNat (16 * x.1 + y.1)).toNat : Int) := by decide +kernel
 exact key ⟨a, ha⟩ ⟨b, hb⟩
theorem hexC_getD {a : Nat} (ha : a < 16) : ([48, 49, 50, 51, 52, 53, 54, 55, 56, 57, 97, 98, 99, 100, 101, 102] : List UInt8).getD a 0 = hexC a := by
 have key : ∀ (x : Fin 16), ([48, 49, 50, 51, 52, 53, 54, 55, 56, 57, 97, 98, 99, 100, 101, 102] : List UInt8).getD x.1 0 = hexC x.1 := by decide +kernel
 exact key ⟨a, ha⟩
theorem StrS.step {H H2 : Heap} {n p : Nat} {s x : List UInt8} {v2 v3 : Nat} (h : StrS H n p s x v2 v3 H2) (c : UInt8) (ys : List UInt8) {zs : List AV} (hz : zs = ys.map Zo) :
   StrS H n p (s ++ [c]) (x ++ ys) (v2 + 1) (v3 + 1) (((H2.put (n + 3) (some (.arr (v3 + 1) 1 (s.map Zo ++ [.int .u8 c.toNat])))).put (n + 1) (some (.arr 0 5 [.agg [.int .i64 3, .int .i64 p, .str [], .int .i64 0, .osl (n + 3) (v3 + 1) 0 (s.length + 1)]]))).put (n + 2) (some (.arr (v2 + 1) 1 (x.map Zo ++ zs)))) where
 r := by rw [Heap.put_ne _ _ (by omega), Heap.put_ne _ _ (by omega), Heap.put_ne _ _ (by omega)]; exact h.r
 w := by rw [Heap.put_ne _ _ (by omega), Heap.put_same, List.length_append]; rfl
 x := by rw [Heap.put_same, List.map_append, hz]
 s := by rw [Heap.put_ne _ _ (by omega), Heap.put_ne _ _ (by omega), Heap.put_same, List.map_append]; rfl
 low := fun k hk => by rw [Heap.put_ne _ _ (by omega), Heap.put_ne _ _ (by omega), Heap.put_ne _ _ (by omega)]; exact h.low k hk
set_option maxHeartbeats 1600000 in
theorem c_query_str (fs : List Fml) (t : List UInt8) (s : Qst) (kr ko ver : Nat) (ht : t.length ≤ 512) (p : Nat) (hp : p < t.length) (H : Heap) (n : Nat) (h : QdH fs t kr ko s ver H n) :
   Zx prog 183 [.loc kr 0 0 0 [], .int .i64 p] H n (QdK fs t kr ko H n (match strF t p with | some x => .ok (wdAV x.1, { s with far := x.2 }) | none => .error p)) := by
 have hR := h.r
 have hR1 := hR
 unfold qdO at hR1
 have hk := h.lr
 have hko := h.lo
 have hne := h.ne
 have hszs : (Zu fs).sz = 1 := rfl
 have hszb : ∀ b, (bys b).sz = 1 := fun _ => rfl
 obtain ⟨r, hr⟩ : ∃ r, r = (match strF t p with | some x => .ok (wdAV x.1, { s with far := x.2 }) | none => .error p : Except Nat (AV × Qst)) := ⟨_, rfl⟩
 rw [← hr]
 unfold strF at hr
 generalize hG : strG (t.length + 1) (t.drop (p + 1)) (p + 1) [] [34] = G at hr
 have e0 : IntKind.i64.wrap ((p : Int) + 1) = ((p + 1 : Nat) : Int) := by rw [w64 (by omega) (by omega)]; omega
 have hS0 := hszs
 have hS1 := hszs
 have hS2 := hszs
 have hS3 := hszs
 have hx := hszs
 have f1 : (n = n + 1) = False := by simp
 have f2 : (n = n + 2) = False := by simp
 have f3 : (n = n + 3) = False := by simp
 have f4 : (n + 1 = n) = False := by simp
 have f5 : (n + 1 = n + 2) = False := by simp
 have f6 : (n + 1 = n + 3) = False := by simp
 have f7 : (n + 2 = n) = False := by simp
 have f8 : (n + 2 = n + 1) = False := by simp
 have f9 : (n + 2 = n + 3) = False := by simp
 have g1 : (n + 3 = n) = False := by simp
 have g2 : (n + 3 = n + 1) = False := by simp
 have g3 : (n + 3 = n + 2) = False := by simp
 have g4 : (n = kr) = False := by simp; omega
 have g5 : (n + 1 = kr) = False := by simp; omega
 have g6 : (n + 2 = kr) = False := by simp; omega
 have g7 : (n + 3 = kr) = False := by simp; omega
 have g8 : (kr = n) = False := by simp; omega
 have g9 : (kr = n + 1) = False := by simp; omega
 refine QdK.fin hk hko hne ?_
 refine Zc func183 rfl ntmps183 (congrArg Array.toList results183) (by simp) ?_
 simp only [go_sem]
 refine Za zs [0, 1, 4] fun K hK => ?_
 try simp only [go_sem, seval]
 apply hK; clear hK K
 refine Za zs [0, 1, 4, 5] fun K hK => ?_
 try simp only [go_sem, seval]
 repeat refine peel ?_
 apply hK; clear hK K
 refine Za zo [0, 1, 4, 5, 6] fun K hK => ?_
 try simp only [go_sem, seval]
 repeat refine peel ?_
 apply hK; clear hK K
 refine Zb fun K1 hK1 => ?_
 refine Za zs [0, 1, 4, 5, 6, 7] fun K hK => ?_
 try simp only [go_sem, seval, e0]
 apply hK; clear hK K
 refine Zk ?_
 refine Xi (n + 1) 1 (ver := 0) (e := 5) (els := [.agg [.int .i64 3, .int .i64 p, .str [], .int .i64 0, .nilsl]]) (els' := [.agg [.int .i64 3, .int .i64 p, .str [], .int .i64 0, .osl (n + 3) 0 0 0]]) (by simp [Heap.put]) ⟨Adp.agg ⟨.refl _ _, .refl _ _, .refl _ _, .refl _ _, Adp.nilsl _, trivial⟩, trivial⟩ ?_
 refine Zy (fun T' H' n' => ∃ (i f : Nat) (s x : List UInt8) (v2 v3 : Nat), p < i ∧ i ≤ t.length ∧ t.length + p + 2 ≤ f + i ∧ strG f (t.drop i) i s x = G ∧ s.length ≤ i ∧ x.length ≤ 3 * i + 1 ∧ T' = tl [(0, .loc kr 0 0 0 []), (1, .int .i64 p), (4, .loc n 0 0 0 []), (5, .loc (n + 1) 0 0 0 []), (6, .osl (n + 2) v2 0 x.length), (7, .int .i64 i)] ∧ StrS H n p s x v2 v3 H' ∧ n' = n + 4) (fun T' _ _ => t.length - iv (T' 7)) ?_ ?_
 ·skip
  exact ⟨p + 1, t.length + 1, [], [34], 0, 0, by omega, by omega, by omega, hG, by simp, by simp, rfl, ⟨by simp [Heap.put]; omega, by simp [Heap.put], by simp [Heap.put, Zo], by simp [Heap.put], fun k hk => by simp only [Heap.put_get]; (repeat rw [if_neg (by omega)])⟩, by omega⟩
 intro T1 H1 n1
 rintro ⟨i, f, s1, x1, v2, v3, hpi, hit, hfi, hgi, hsl, hxl, rfl, hS, rfl⟩
 obtain ⟨f, rfl⟩ : ∃ g, f = g + 1 := ⟨f - 1, by omega⟩
 have hR1 := (hS.low kr hk).trans hR1
 have hS1 := hS.w
 have hS2 := hS.x
 have hS3 := hS.s
 have hS0 := hS.r
 refine Zb fun K2 hK2 => ?_
 refine Za zs [0, 1, 4, 5, 6, 7, 20] fun K hK => ?_
 try simp only [go_sem, seval, hR1, wdAV, Int.toNat_natCast]
 apply hK; clear hK K
 refine Zf ?_ ?_ <;> intro hb
 ·skip
  have hlt : i < t.length := by have := of_decide_eq_true hb; omega
  have hx : IntKind.i64.wrap ((i : Int) + 1) = ((i + 1 : Nat) : Int) := w1 (by omega)
  obtain ⟨c, hc⟩ : ∃ c, c = t.getD i 0 := ⟨_, rfl⟩
  have hcl := c.toNat_lt
  have e34 : List.take x1.length (List.map Zo x1) = List.map Zo x1 := List.take_of_length_le (by simp)
  have e35 : List.take (x1.length + 1) (List.map Zo x1 ++ [AV.int .u8 34]) = List.map Zo (x1 ++ [34]) := by rw [List.take_of_length_le (by simp)]; simp [Zo]
  refine Zd ?_
  try simp only [go_sem, seval, Int.toNat_natCast]
  apply hK2
  clear hK2 K2
  refine YB [0, 1, 4, 5, 6, 7] (fun T' H' n' => ∃ (i' f' : Nat) (s' x' : List UInt8) (v2' v3' : Nat), i ≤ i' ∧ i' < t.length ∧ t.length + p + 2 ≤ f' + i' + 1 ∧ strG f' (t.drop (i' + 1)) (i' + 1) s' x' = G ∧ s'.length ≤ i' + 1 ∧ x'.length ≤ 3 * (i' + 1) + 1 ∧ T' = tl [(0, .loc kr 0 0 0 []), (1, .int .i64 p), (4, .loc n 0 0 0 []), (5, .loc (n + 1) 0 0 0 []), (6, .osl (n + 2) v2' 0 x'.length), (7, .int .i64 i')] ∧ StrS H n p s' x' v2' v3' H' ∧ n' = n + 4) ?_ ?_
  ·skip
   refine Zk ?_
   refine Za zs [0, 1, 4, 5, 6, 7, 8] fun K hK => ?_
   try simp only [go_sem, seval, hR1, wdAV, Int.toNat_natCast, ← hc]
   repeat refine peel ?_
   apply hK; clear hK K
   refine YB [0, 1, 4, 5, 6, 7, 8] (fun T' H' n' => ∃ (i' f' : Nat) (c' : UInt8), i ≤ i' ∧ i' < t.length ∧ t.length + p + 2 ≤ f' + i' + 1 ∧ strG f' (t.drop (i' + 1)) (i' + 1) (s1 ++ [c']) (x1 ++ Xx c') = G ∧ T' = tl [(0, .loc kr 0 0 0 []), (1, .int .i64 p), (4, .loc n 0 0 0 []), (5, .loc (n + 1) 0 0 0 []), (6, .osl (n + 2) v2 0 x1.length), (7, .int .i64 i'), (8, Zo c')] ∧ H' = H1 ∧ n' = n + 4) ?_ ?_
   ·skip
    refine Zk ?_
    refine Za zs [0, 1, 4, 5, 6, 7, 8, 29] fun K hK => ?_
    try simp only [go_sem, seval, Int.toNat_natCast]
    apply hK; clear hK K
    refine Zf ?_ ?_ <;> intro hb
    ·skip
     have k0 : (t.getD i 0).toNat = 34 := by rw [← hc]; have h9 := hb; simp at h9; omega
     refine Za zs [4, 5, 6] fun K hK => ?_
     try simp only [go_sem, seval, hR1, wdAV, hx, Int.toNat_natCast]
     apply hK; clear hK K
     refine Za zs [4, 5] fun K hK => ?_
     try simp only [go_sem, seval, hS1, hS2, List.length_map, f5, g5, g6, Int.toNat_natCast, e34, e35, YX]
     repeat (first | refine peel ?_ | (refine And.intro ?_ ?_; · first | exact ⟨by omega, .inr trivial, by omega, by omega⟩ | exact ⟨by simp, Y1 _⟩))
     apply hK; clear hK K
     refine Za zs [4] fun K hK => ?_
     try simp only [go_sem, seval, hS0, f1, f2, g4, Int.toNat_natCast]
     apply hK; clear hK K
     refine Ze ?_
     try simp only [go_sem, seval, Int.toNat_natCast]
     rw [strG_quote hlt k0] at hgi
     rw [← hgi] at hr
     refine QdE.val (s := { s with far := i + 1 }) (ver := ver) hr (by rw [Heap.put_ne _ _ (by omega), Heap.put_ne _ _ (by omega), Heap.put_ne _ _ (by omega), Heap.put_same]; rfl) (.kl (Jk fs t _ hko)) ?_ ?_ ?_
     ·rw [Heap.put_ne _ _ (by omega), Heap.put_ne _ _ (by omega), Heap.put_ne _ _ (by omega), Heap.put_ne _ _ hne.symm, hS.low ko hko]; exact h.o
     ·intro k e1 e2 e3; rw [Heap.put_ne _ _ (by omega), Heap.put_ne _ _ (by omega), Heap.put_ne _ _ (by omega), Heap.put_ne _ _ e2, hS.low k e1]
     ·exact .agg (.cons (.kl trivial) (.cons (.kl trivial) (.cons (.kl trivial) (.cons (.kl trivial) (.cons (.osl (els := s1.map Zo) (ver := v3) (by rw [Heap.put_ne _ _ (by omega), Heap.put_ne _ _ (by omega), Heap.put_ne _ _ (by omega), Heap.put_ne _ _ (by omega)]; exact hS.s) (by omega) (by simp) (by rw [List.drop_zero, List.take_of_length_le (by simp)]; exact YE _ (ZH _ _))) .nil)))))
    have k0 : ¬ (t.getD i 0).toNat = 34 := by rw [← hc]; have h9 := hb; simp at h9; omega
    refine Za zs [0, 1, 4, 5, 6, 7, 8, 43] fun K hK => ?_
    try simp only [go_sem, seval, Int.toNat_natCast]
    repeat refine peel ?_
    apply hK; clear hK K
    refine Zf ?_ ?_ <;> intro hb
    ·skip
     have k1 : (t.getD i 0).toNat < 32 ∨ 126 < (t.getD i 0).toNat := by rw [← hc]; have h9 := hb; simp at h9; omega
     refine Zl zs [0, 1, 4, 5, 6, 7, 8] fun K hK => ?_
     try simp only [go_sem, seval, Int.toNat_natCast]
     refine Zi (args' := [.int .i64 p]) func163 rfl rfl rfl (Yn p _ _) ?_ ?_
     ·skip
      rintro rr H' n' ⟨rfl, rfl, h1⟩
      cases h1
     rintro q H' n' ⟨rfl, rfl, h1⟩
     cases h1
     refine QdE.err ?_ (by omega) (fun k e1 e2 e3 => hS.low k e1)
     rw [hr, ← hgi, strG_bad hlt k0 k1]; rfl
    have k1 : ¬ ((t.getD i 0).toNat < 32 ∨ 126 < (t.getD i 0).toNat) := by rw [← hc]; have h9 := hb; simp at h9; omega
    refine Za zs [0, 1, 4, 5, 6, 7, 8, 52] fun K hK => ?_
    try simp only [go_sem, seval, Int.toNat_natCast]
    apply hK; clear hK K
    refine Zf ?_ ?_ <;> intro hb
    ·skip
     have k2 : (t.getD i 0).toNat = 92 := by rw [← hc]; have h9 := hb; simp at h9; omega
     refine Za zs [0, 1, 4, 5, 6, 7] fun K hK => ?_
     try simp only [go_sem, seval, hx, Int.toNat_natCast]
     apply hK; clear hK K
     refine Zb fun K3 hK3 => ?_
     refine Za zs [0, 1, 4, 5, 6, 7, 63] fun K hK => ?_
     try simp only [go_sem, seval, hR1, wdAV, Int.toNat_natCast]
     apply hK; clear hK K
     refine Zf ?_ ?_ <;> intro hb
     ·skip
      have k3 : t.length ≤ i + 1 := by have h9 := hb; simp at h9; omega
      refine Zl zs [0, 1, 4, 5, 6, 7] fun K hK => ?_
      try simp only [go_sem, seval, Int.toNat_natCast]
      refine Zi (args' := [.int .i64 p]) func163 rfl rfl rfl (Yn p _ _) ?_ ?_
      ·skip
       rintro rr H' n' ⟨rfl, rfl, h1⟩
       cases h1
      rintro q H' n' ⟨rfl, rfl, h1⟩
      cases h1
      refine QdE.err ?_ (by omega) (fun k e1 e2 e3 => hS.low k e1)
      rw [hr, ← hgi, strG_esc0 hlt k2 k3]; rfl
     have k3 : i + 1 < t.length := by have h9 := hb; simp at h9; omega
     have hx := w1 (i := i + 1) (by omega)
     obtain ⟨d, hd⟩ : ∃ d, d = t.getD (i + 1) 0 := ⟨_, rfl⟩
     have hdl := d.toNat_lt
     refine Zd ?_
     try simp only [go_sem, seval, Int.toNat_natCast]
     apply hK3
     clear hK3 K3
     refine Za zs [0, 1, 4, 5, 6, 7, 8] fun K hK => ?_
     try simp only [go_sem, seval, hR1, wdAV, Int.toNat_natCast, ← hd]
     repeat refine peel ?_
     apply hK; clear hK K
     refine Za zs [0, 1, 4, 5, 6, 7, 8, 77] fun K hK => ?_
     try simp only [go_sem, seval, Int.toNat_natCast]
     repeat refine peel ?_
     apply hK; clear hK K
     refine Zf ?_ ?_ <;> intro hb
     ·skip
      have k4 : ¬ ((t.getD (i + 1) 0).toNat = 34 ∨ (t.getD (i + 1) 0).toNat = 92) := by rw [← hd]; have h9 := hb; simp at h9; omega
      refine Zb fun K4 hK4 => ?_
      refine Za zs [0, 1, 4, 5, 6, 7, 8, 101] fun K hK => ?_
      try simp only [go_sem, seval, hR1, wdAV, hx, Int.toNat_natCast]
      refine Zv func196 rfl rfl rfl (fun _ => (VQ d _ _)) ?_
      try simp only [go_sem, seval, hR1, wdAV, hx, Int.toNat_natCast]
      repeat (first | refine peel ?_ | refine ⟨by (intro hx9; rcases Nat.lt_or_ge (i + 2) t.length with q | q; exact ⟨by omega, by omega⟩; rw [decide_eq_true (by omega)] at hx9; cases hx9), ?_⟩)
      refine Zv func196 rfl rfl rfl (fun _ => (VQ (t.getD (i + 2) 0) _ _)) ?_
      try simp only [go_sem, seval]
      repeat refine peel ?_
      apply hK; clear hK K
      refine Zf ?_ ?_ <;> intro hb
      ·skip
       have k5 : strG (f + 1) (t.drop i) i s1 x1 = none := by
         rcases Nat.lt_or_ge (i + 2) t.length with q | q
         ·rw [decide_eq_false (by omega)] at hb
          refine strG_esc3 q k2 k4 ?_
          by_cases hd0 : hexI d < 0
          ·left; rw [← hd]; exact hexV_none hd0
          ·right; rw [decide_eq_false hd0] at hb; exact hexV_none (of_decide_eq_true hb)
         ·exact strG_esc2 k3 k2 k4 q
       refine Zl zs [0, 1, 4, 5, 6, 7, 8] fun K hK => ?_
       try simp only [go_sem, seval, Int.toNat_natCast]
       refine Zi (args' := [.int .i64 p]) func163 rfl rfl rfl (Yn p _ _) ?_ ?_
       ·skip
        rintro rr H' n' ⟨rfl, rfl, h1⟩
        cases h1
       rintro q H' n' ⟨rfl, rfl, h1⟩
       cases h1
       refine QdE.err ?_ (by omega) (fun k e1 e2 e3 => hS.low k e1)
       rw [hr, ← hgi, k5]; rfl
      have k7 : i + 2 < t.length := by rcases Nat.lt_or_ge (i + 2) t.length with q | q; exact q; rw [decide_eq_true (by omega)] at hb; cases hb
      rw [decide_eq_false (by omega)] at hb
      obtain ⟨a, ha, ha2⟩ : ∃ a, hexV d = some a ∧ hexI d = ((a : Nat) : Int) := hexI_some (by by_cases q : hexI d < 0; (rw [decide_eq_true q] at hb; cases hb); omega)
      obtain ⟨b, hb2, hb3⟩ : ∃ b, hexV (t.getD (i + 2) 0) = some b ∧ hexI (t.getD (i + 2) 0) = ((b : Nat) : Int) := hexI_some (by by_cases q : hexI (t.getD (i + 2) 0) < 0; (rw [decide_eq_true q] at hb; cases h : decide (hexI d < 0) <;> rw [h] at hb <;> cases hb); omega)
      have hal := hexV_lt ha
      have hbl := hexV_lt hb2
      refine Zd ?_
      try simp only [go_sem, seval, Int.toNat_natCast]
      apply hK4
      clear hK4 K4
      refine YF rfl zs [0, 1, 4, 5, 6, 7, 8] [.m, .c, .q, .m, .q, .q, .q, .m, .q, .q, .c, .q, .q, .q] (by kernel_rfl) (fun _ _ _ _ _ h => h) fun K hK => ?_
      try simp only [go_sem, seval, hR1, wdAV, hx, Int.toNat_natCast, ha2, hb3]
      refine ZL func196 rfl rfl rfl (fun _ n => (VQ d _ _)) ?_
      try simp only [go_sem, seval, ha2]
      repeat refine peel ?_
      refine ZL func196 rfl rfl rfl (fun _ n => (VQ (t.getD (i + 2) 0) _ _)) ?_
      try simp only [go_sem, seval, hb3]
      apply hK; clear hK K
      refine Zl zs [0, 1, 4, 5, 6, 7, 8] fun K hK => ?_
      try simp only [go_sem, seval, hx, Int.toNat_natCast]
      apply hK; clear hK K
      try simp only [go_sem, seval, Int.toNat_natCast]
      exact ⟨i + 2, f, UInt8.ofNat (16 * a + b), by omega, k7, by omega, by rw [← strG_esc4 k7 k2 k4 (hd ▸ ha) hb2]; exact hgi, by rw [or_hex hal hbl]⟩
     have k4 : (t.getD (i + 1) 0).toNat = 34 ∨ (t.getD (i + 1) 0).toNat = 92 := by rw [← hd]; have h9 := hb; simp at h9; omega
     refine Zd ?_
     try simp only [go_sem, seval, Int.toNat_natCast]
     exact ⟨i + 1, f, d, by omega, k3, by omega, by rw [hd, ← strG_esc1 k3 k2 k4]; exact hgi, rfl⟩
    have k2 : ¬ (t.getD i 0).toNat = 92 := by rw [← hc]; have h9 := hb; simp at h9; omega
    refine Zd ?_
    try simp only [go_sem, seval, Int.toNat_natCast]
    exact ⟨i, f, c, by omega, hlt, by omega, by rw [hc, ← strG_plain hlt k0 k1 k2]; exact hgi, rfl⟩
   rintro T2 H2 n2 ⟨i', f', c', q1, q2, q3, q4, rfl, rfl, rfl⟩
   have m1 : ((c'.toNat : Nat) : Int).fdiv (2 ^ min 4 8) = ((c'.toNat / 16 : Nat) : Int) := shr4 c'
   have m2 := and15 c'
   have hcl' := c'.toNat_lt
   have e36 : List.take s1.length (List.map Zo s1) = List.map Zo s1 := List.take_of_length_le (by simp)
   refine Za zs [0, 1, 4, 5, 6, 7, 8] fun K hK => ?_
   try simp only [go_sem, seval, hS1, hS3, List.length_map, f6, Int.toNat_natCast, e36]
   repeat (first | refine peel ?_ | (refine And.intro ?_ ?_; · first | exact ⟨rfl, by simp [AV.sz, AV.memOK]⟩ | exact ⟨by omega, .inr trivial, by omega, by omega⟩))
   apply hK; clear hK K
   refine Zk ?_
   refine Za zs [0, 1, 4, 5, 6, 7, 8, 129] fun K hK => ?_
   try simp only [go_sem, seval, Int.toNat_natCast]
   repeat refine peel ?_
   apply hK; clear hK K
   refine Zf ?_ ?_ <;> intro hb
   ·skip
    have hq : Xx c' = [92, c'] := by unfold Xx; rw [if_pos]; have h9 := hb; simp at h9; omega
    refine Zl zs [0, 1, 4, 5, 6, 7] fun K hK => ?_
    try simp only [go_sem, seval, hS2, List.length_map, f8, f9, Int.toNat_natCast, e34]
    repeat (first | refine peel ?_ | (refine And.intro ?_ ?_; · first | exact ⟨rfl, by simp [AV.sz, AV.memOK]⟩ | exact ⟨by omega, .inr trivial, by omega, by omega⟩))
    apply hK; clear hK K
    try simp only [go_sem, seval, Int.toNat_natCast]
    refine ⟨i', f', s1 ++ [c'], x1 ++ Xx c', v2 + 1, v3 + 1, q1, q2, by omega, q4, by simp; omega, by have := WC c'; simp; omega, by rw [hq, List.length_append]; rfl, ?_⟩
    rw [hq]
    exact hS.step c' _ rfl
   have k8 : ¬ (c'.toNat = 34 ∨ c'.toNat = 92) := by have h9 := hb; simp at h9; omega
   refine Za zs [0, 1, 4, 5, 6, 7, 8, 140] fun K hK => ?_
   try simp only [go_sem, seval, Int.toNat_natCast]
   repeat refine peel ?_
   apply hK; clear hK K
   refine Zf ?_ ?_ <;> intro hb
   ·skip
    have hq : Xx c' = [92, hexC (c'.toNat / 16), hexC (c'.toNat % 16)] := by unfold Xx; rw [if_neg k8, if_pos]; have h9 := hb; simp at h9; omega
    refine awp_drw1 rfl zs [0, 1, 4, 5, 6, 7] [.m, .m, .q, .q, .m, .q, .q, .q, .w [], .q] (by kernel_rfl) (fun _ _ _ _ _ h => h) fun K hK => ?_
    try simp only [go_sem, seval, hS2, List.length_map, f8, f9, Int.toNat_natCast, e34, m1, m2]
    repeat (first | refine peel ?_ | (refine And.intro ?_ ?_; · first | exact ⟨rfl, by simp [AV.sz, AV.memOK]⟩ | exact ⟨by omega, .inr trivial, by omega, by omega⟩))
    apply hK; clear hK K
    try simp only [go_sem, seval, Int.toNat_natCast]
    refine ⟨i', f', s1 ++ [c'], x1 ++ Xx c', v2 + 1, v3 + 1, q1, q2, by omega, q4, by simp; omega, by have := WC c'; simp; omega, by rw [hq, List.length_append]; rfl, ?_⟩
    rw [hq]
    (rw [hexC_getD (by omega), hexC_getD (by omega)]; exact hS.step c' _ rfl)
   have hq : Xx c' = [c'] := by unfold Xx; rw [if_neg k8, if_neg]; have h9 := hb; simp at h9; omega
   refine Zl zs [0, 1, 4, 5, 6, 7] fun K hK => ?_
   try simp only [go_sem, seval, hS2, List.length_map, f8, f9, Int.toNat_natCast, e34]
   repeat (first | refine peel ?_ | (refine And.intro ?_ ?_; · first | exact ⟨rfl, by simp [AV.sz, AV.memOK]⟩ | exact ⟨by omega, .inr trivial, by omega, by omega⟩))
   apply hK; clear hK K
   try simp only [go_sem, seval, Int.toNat_natCast]
   refine ⟨i', f', s1 ++ [c'], x1 ++ Xx c', v2 + 1, v3 + 1, q1, q2, by omega, q4, by simp; omega, by have := WC c'; simp; omega, by rw [hq, List.length_append]; rfl, ?_⟩
   rw [hq]
   exact hS.step c' _ rfl
  rintro T2 H2 n2 ⟨i', f', s', x', v2', v3', q1, q2, q3, q4, q5, q6, rfl, q7, rfl⟩
  have hx : IntKind.i64.wrap ((i' : Int) + 1) = ((i' + 1 : Nat) : Int) := w1 (by omega)
  refine Zl zs [0, 1, 4, 5, 6, 7] fun K hK => ?_
  try simp only [go_sem, seval, hx, Int.toNat_natCast]
  apply hK; clear hK K
  try simp only [go_sem, seval, Int.toNat_natCast]
  exact ⟨⟨i' + 1, f', s', x', v2', v3', by omega, by omega, by omega, q4, q5, q6, rfl, q7⟩, by first | omega | (simp; omega)⟩
 have hge : t.length ≤ i := by have := of_decide_eq_false hb; omega
 refine Zz ?_
 try simp only [go_sem, seval, Int.toNat_natCast]
 apply hK1
 refine Za zs [4, 5] fun K hK => ?_
 try simp only [go_sem, seval]
 refine Zi (args' := [.int .i64 p]) func163 rfl rfl rfl (Yn p _ _) ?_ ?_
 ·skip
  rintro rr H' n' ⟨rfl, rfl, h1⟩
  cases h1
 rintro q H' n' ⟨rfl, rfl, h1⟩
 cases h1
 refine QdE.err ?_ (by omega) (fun k e1 e2 e3 => hS.low k e1)
 rw [hr, ← hgi, strG_end hge]; rfl
end Go.Proofs.YtifnhpmeoogedaaGreatDoor