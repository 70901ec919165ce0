/- Own layer: walks through the sameness of replies in the order's document. Of the program; no condition. -/
import Derived.Test.YtifnhpmeoogedaaGreatDoorPI
set_option linter.unusedSimpArgs false
set_option linter.unusedVariables false
namespace Go.Proofs.YtifnhpmeoogedaaGreatDoor
open Go Go.Sx Go.Rt Go.Proofs
def pagAV (r : RepE) : AV := .agg [.sl 2 (r.rows.map rowAV), bys r.token, .bool r.done]
theorem row_ext (a b : RowE) : a = b ↔ a.row = b.row ∧ a.cells = b.cells := by cases a; cases b; simp
theorem cel_ext (a b : CelE) : a = b ↔ a.fam = b.fam ∧ a.qual = b.qual ∧ a.ts = b.ts ∧ a.value = b.value := by cases a; cases b; simp
theorem rep_ext (a b : RepE) : a = b ↔ a.err = b.err ∧ a.held = b.held ∧ a.value = b.value ∧ a.rows = b.rows ∧ a.token = b.token ∧ a.done = b.done := by cases a; cases b; simp
set_option maxRecDepth 100000 in
set_option maxHeartbeats 6400000 in
theorem c_ref14_SamePage (a b : RepE) (ha : a.rows.length ≤ 1048576) (hc : ∀ x ∈ a.rows, x.cells.length ≤ 1048576) (H : Heap) (n : Nat) : Ret Tryz.prog 96 [pagAV a, pagAV b] H n (.bool (decide (a.rows = b.rows ∧ a.token = b.token ∧ a.done = b.done))) H n := by
  have r1 : (0 : Nat) = 0 := rfl
  have r2 := r1
  refine Ret.fin ?_
  refine acalls_of_awp Tryz.func96 rfl Tryz.ntmps96 (congrArg Array.toList Tryz.results96) (by simp) ?_
  simp only [go_sem]
  refine awp_reg zs [2, 3] fun K hK => ?_
  try simp only [go_sem, seval, pagAV, bys]
  repeat (first | (refine And.intro ?_ ?_; · first | exact bys_isByte _ | exact fun _ => bys_isByte _) | refine peel ?_)
  refine hK _ _ _ ?_; clear hK K
  refine awp_seq_k fun K1 hK1 => ?_
  refine awp_reg zs [2, 3, 31] fun K hK => ?_
  try simp only [go_sem, seval, List.length_map, map_byteOf]
  repeat (first | (refine And.intro ?_ ?_; · first | exact bys_isByte _ | exact fun _ => bys_isByte _) | refine peel ?_)
  refine hK _ _ _ ?_; clear hK K
  refine awp_cnd (fun hb => ?_) (fun hb => ?_)
  ·skip
   have hne : ¬ (a.rows = b.rows ∧ a.token = b.token ∧ a.done = b.done) := fun ⟨e1, e2, e3⟩ => by rw [e1, e2, e3] at hb; simp at hb
   refine awp_reg zs [4] fun K hK => ?_
   try simp only [go_sem, seval]
   repeat (first | (refine And.intro ?_ ?_; · first | exact bys_isByte _ | exact fun _ => bys_isByte _) | refine peel ?_)
   refine hK _ _ _ ?_; clear hK K
   refine awp_ret ?_
   try simp only [go_sem, seval]
   refine ⟨_, rfl, fun k hk => ?_, Frz.eq ?_ trivial⟩
   · (repeat rw [if_neg (by omega)])
     try exact hlow k hk
   · congr 1; first | (simp [hne]; done) | (simp [heq, hl.2.1, hl.2.2]; done)
  ·skip
   have hl : a.rows.length = b.rows.length ∧ a.token = b.token ∧ a.done = b.done := by grind
   refine awp_skip ?_
   try simp only [go_sem, seval]
   refine hK1 _ _ _ ?_
   first | clear hK1 K1 | skip
   refine awp_seq_k fun K2 hK2 => ?_
   refine awp_reg zs [2, 3, 5] fun K hK => ?_
   try simp only [go_sem, seval]
   repeat (first | (refine And.intro ?_ ?_; · first | exact bys_isByte _ | exact fun _ => bys_isByte _) | refine peel ?_)
   refine hK _ _ _ ?_; clear hK K
   refine awp_block ?_
   refine awp_loop (fun T' H' n' => ∃ i : Nat, i ≤ a.rows.length ∧ T' = tl [(2, .loc n 0 0 0 []), (3, .loc (n + 1) 0 0 0 []), (5, .int .i64 i)] ∧ H' n = some (.arr 0 3 [pagAV a]) ∧ H' (n + 1) = some (.arr 0 3 [pagAV b]) ∧ (∀ k, k < n → H' k = H k) ∧ n + 2 ≤ n' ∧ (a.rows.drop i = b.rows.drop i ↔ a.rows = b.rows)) (fun T' _ _ => a.rows.length - iv (T' 5)) ?_ ?_
   ·skip
    exact ⟨0, Nat.zero_le _, rfl, by simp [Heap.put, pagAV, bys], by simp [Heap.put, pagAV, bys], fun k hk => by simp only [Heap.put_get]; (repeat rw [if_neg (by omega)]), by omega, by simp⟩
   intro T1 H1 n1
   rintro ⟨i, hi, rfl, r1, r2, hlow, hnn, hix⟩
   refine awp_seq_k fun K3 hK3 => ?_
   refine awp_reg zs [2, 3, 5, 36] fun K hK => ?_
   try simp only [go_sem, seval, pagAV, List.length_map, bys, r1]
   repeat (first | (refine And.intro ?_ ?_; · first | exact bys_isByte _ | exact fun _ => bys_isByte _) | refine peel ?_)
   refine hK _ _ _ ?_; clear hK K
   refine awp_cnd (fun hb => ?_) (fun hb => ?_)
   ·skip
    have hlt : i < a.rows.length := by have := of_decide_eq_true hb; omega
    have hlt2 : i < b.rows.length := by omega
    rw [drop_cons a.rows i hlt, drop_cons b.rows i hlt2, List.cons.injEq] at hix
    have hn1 : nth (a.rows.map rowAV) i = rowAV (a.rows.getD i default) := nth_map rowAV a.rows i hlt
    have hn2 : nth (b.rows.map rowAV) i = rowAV (b.rows.getD i default) := nth_map rowAV b.rows i hlt2
    have hcx := hc _ (getD_mem _ hlt)
    generalize a.rows.getD i default = x at *
    generalize b.rows.getD i default = y at *
    refine awp_skip ?_
    try simp only [go_sem, seval, pagAV, bys]
    refine hK3 _ _ _ ?_
    first | clear hK3 K3 | skip
    refine awp_seq_k fun K4 hK4 => ?_
    refine awp_block ?_
    refine awp_seq_k fun K5 hK5 => ?_
    refine awp_drw rfl zs [2, 3, 5, 70] [.q, .q, .m, .q, .q, .q, .q, .q, .q, .m, .q, .q, .q, .q, .q, .m, .q, .q, .m, .q, .q, .q, .q, .q, .q, .m, .q, .q, .q, .q, .q, .q] (by kernel_rfl) (fun _ _ _ _ _ h => h) fun K hK => ?_
    try simp only [go_sem, seval, pagAV, List.length_map, map_byteOf, bys, r1, r2, Int.toNat_natCast, hn1, hn2, rowAV]
    repeat (first | (refine And.intro ?_ ?_; · first | exact bys_isByte _ | exact fun _ => bys_isByte _) | refine peel ?_)
    refine hK _ _ _ ?_; clear hK K
    refine awp_cnd (fun hb => ?_) (fun hb => ?_)
    ·skip
     have hne : ¬ (a.rows = b.rows ∧ a.token = b.token ∧ a.done = b.done) := fun e => by have e2 := (hix.2 e.1).1; subst e2; simp at hb
     refine awp_reg zs [4] fun K hK => ?_
     try simp only [go_sem, seval, pagAV, bys]
     repeat (first | (refine And.intro ?_ ?_; · first | exact bys_isByte _ | exact fun _ => bys_isByte _) | refine peel ?_)
     refine hK _ _ _ ?_; clear hK K
     refine awp_ret ?_
     try simp only [go_sem, seval, pagAV, bys]
     refine ⟨_, rfl, fun k hk => ?_, Frz.eq ?_ trivial⟩
     · (repeat rw [if_neg (by omega)])
       try exact hlow k hk
     · congr 1; first | (simp [hne]; done) | (simp [heq, hl.2.1, hl.2.2]; done)
    ·skip
     have hxy : x.row = y.row ∧ x.cells.length = y.cells.length := by grind
     refine awp_skip ?_
     try simp only [go_sem, seval, pagAV, bys]
     refine hK5 _ _ _ ?_
     first | clear hK5 K5 | skip
     refine awp_reg zs [2, 3, 5, 6] fun K hK => ?_
     try simp only [go_sem, seval, pagAV, bys]
     repeat (first | (refine And.intro ?_ ?_; · first | exact bys_isByte _ | exact fun _ => bys_isByte _) | refine peel ?_)
     refine hK _ _ _ ?_; clear hK K
     refine awp_block ?_
     refine awp_loop (fun T' H' n' => ∃ j : Nat, j ≤ x.cells.length ∧ T' = tl [(2, .loc n 0 0 0 []), (3, .loc (n + 1) 0 0 0 []), (5, .int .i64 i), (6, .int .i64 j)] ∧ H' n = some (.arr 0 3 [pagAV a]) ∧ H' (n + 1) = some (.arr 0 3 [pagAV b]) ∧ (∀ k, k < n → H' k = H k) ∧ n + 2 ≤ n' ∧ (x.cells.drop j = y.cells.drop j ↔ x.cells = y.cells)) (fun T' _ _ => x.cells.length - iv (T' 6)) ?_ ?_
     ·skip
      exact ⟨0, Nat.zero_le _, rfl, r1, r2, hlow, hnn, by simp⟩
     intro T1 H1 n1
     rintro ⟨j, hj, rfl, r1, r2, hlow, hnn, hjx⟩
     refine awp_seq_k fun K6 hK6 => ?_
     refine awp_reg zs [2, 3, 5, 6, 79] fun K hK => ?_
     try simp only [go_sem, seval, pagAV, List.length_map, bys, r1, Int.toNat_natCast, hn1, rowAV]
     repeat (first | (refine And.intro ?_ ?_; · first | exact bys_isByte _ | exact fun _ => bys_isByte _) | refine peel ?_)
     refine hK _ _ _ ?_; clear hK K
     refine awp_cnd (fun hb => ?_) (fun hb => ?_)
     ·skip
      have hjl : j < x.cells.length := by have := of_decide_eq_true hb; omega
      have hjl2 : j < y.cells.length := by omega
      rw [drop_cons x.cells j hjl, drop_cons y.cells j hjl2, List.cons.injEq] at hjx
      have hm1 : nth (x.cells.map celAV) j = celAV (x.cells.getD j default) := nth_map celAV x.cells j hjl
      have hm2 : nth (y.cells.map celAV) j = celAV (y.cells.getD j default) := nth_map celAV y.cells j hjl2
      generalize x.cells.getD j default = u at *
      generalize y.cells.getD j default = v at *
      have e1 : (n1 = n) = False := by simp; omega
      have e1' : (n = n1) = False := by simp; omega
      have e2 : (n1 = n + 1) = False := by simp; omega
      have e2' : (n + 1 = n1) = False := by simp; omega
      have e3 : (n1 + 1 = n) = False := by simp; omega
      have e3' : (n = n1 + 1) = False := by simp; omega
      refine awp_skip ?_
      try simp only [go_sem, seval, pagAV, bys]
      refine hK6 _ _ _ ?_
      first | clear hK6 K6 | skip
      refine awp_seq_k fun K7 hK7 => ?_
      refine awp_block ?_
      refine awp_reg zs [2, 3, 5, 6, 7] fun K hK => ?_
      try simp only [go_sem, seval, pagAV, List.length_map, bys, r1, Int.toNat_natCast, hn1, hm1, rowAV, celAV]
      repeat (first | (refine And.intro ?_ ?_; · first | exact bys_isByte _ | exact fun _ => bys_isByte _) | refine peel ?_)
      refine hK _ _ _ ?_; clear hK K
      refine awp_reg zs [2, 3, 5, 6, 7, 8] fun K hK => ?_
      try simp only [go_sem, seval, pagAV, List.length_map, bys, r2, Int.toNat_natCast, hn2, hm2, rowAV, celAV, e2']
      repeat (first | (refine And.intro ?_ ?_; · first | exact bys_isByte _ | exact fun _ => bys_isByte _) | refine peel ?_)
      refine hK _ _ _ ?_; clear hK K
      refine awp_reg zs [2, 3, 5, 6, 129] fun K hK => ?_
      try simp only [go_sem, seval, pagAV, map_byteOf, bys]
      repeat (first | (refine And.intro ?_ ?_; · first | exact bys_isByte _ | exact fun _ => bys_isByte _) | refine peel ?_)
      refine hK _ _ _ ?_; clear hK K
      refine awp_cnd (fun hb => ?_) (fun hb => ?_)
      ·skip
       have hne : ¬ (a.rows = b.rows ∧ a.token = b.token ∧ a.done = b.done) := fun e => by have e2 := (hix.2 e.1).1; subst e2; have e3 := (hjx.2 rfl).1; subst e3; simp at hb
       refine awp_reg zs [4] fun K hK => ?_
       try simp only [go_sem, seval, pagAV, bys]
       repeat (first | (refine And.intro ?_ ?_; · first | exact bys_isByte _ | exact fun _ => bys_isByte _) | refine peel ?_)
       refine hK _ _ _ ?_; clear hK K
       refine awp_ret ?_
       try simp only [go_sem, seval, pagAV, bys]
       refine ⟨_, rfl, fun k hk => ?_, Frz.eq ?_ trivial⟩
       · (repeat rw [if_neg (by omega)])
         try exact hlow k hk
       · congr 1; first | (simp [hne]; done) | (simp [heq, hl.2.1, hl.2.2]; done)
      ·skip
       have huv : u = v := by rw [cel_ext]; grind
       have hnext : (x.cells.drop (j + 1) = y.cells.drop (j + 1)) ↔ x.cells = y.cells := by rw [← hjx]; simp only [huv, true_and]
       refine awp_skip ?_
       try simp only [go_sem, seval, pagAV, bys]
       refine hK7 _ _ _ ?_
       first | clear hK7 K7 | skip
       refine awp_reg1 zs [2, 3, 5, 6] fun K hK => ?_
       try simp only [go_sem, seval, pagAV, bys]
       repeat (first | (refine And.intro ?_ ?_; · first | exact bys_isByte _ | exact fun _ => bys_isByte _) | refine peel ?_)
       refine hK _ _ _ ?_; clear hK K
       try simp only [go_sem, seval, pagAV, bys, r1, r2]
       refine ⟨⟨j + 1, by omega, by rw [w1 (by omega)], ?_, ?_, fun k hk => ?_, by omega, hnext⟩, by rw [w1 (by omega)]; simp; omega⟩
       · simp [Heap.put, e1', e3', r1]
       · simp [Heap.put, e2', r2]; try omega
       · (repeat rw [if_neg (by omega)])
         exact hlow k hk
     ·skip
      have hge : j = x.cells.length := by have := of_decide_eq_false hb; omega
      have hce : x.cells = y.cells := by rw [← hjx, hge, List.drop_length, hxy.2, List.drop_length]
      have hxe : x = y := by rw [row_ext]; exact ⟨hxy.1, hce⟩
      have hnx : (a.rows.drop (i + 1) = b.rows.drop (i + 1)) ↔ a.rows = b.rows := by rw [← hix]; simp only [hxe, true_and]
      refine awp_exit ?_
      try simp only [go_sem, seval, pagAV, bys]
      refine hK4 _ _ _ ?_
      first | clear hK4 K4 | skip
      refine awp_reg1 zs [2, 3, 5] fun K hK => ?_
      try simp only [go_sem, seval, pagAV, bys]
      repeat (first | (refine And.intro ?_ ?_; · first | exact bys_isByte _ | exact fun _ => bys_isByte _) | refine peel ?_)
      refine hK _ _ _ ?_; clear hK K
      try simp only [go_sem, seval, pagAV, bys, r1, r2]
      exact ⟨⟨i + 1, by omega, by rw [w1 (by omega)], hlow, hnn, hnx⟩, by rw [w1 (by omega)]; simp; omega⟩
   ·skip
    have hge : i = a.rows.length := by have := of_decide_eq_false hb; omega
    have heq : a.rows = b.rows := by rw [← hix, hge, List.drop_length, hl.1, List.drop_length]
    refine awp_exit ?_
    try simp only [go_sem, seval, pagAV, bys]
    refine hK2 _ _ _ ?_
    first | clear hK2 K2 | skip
    refine awp_reg zs [4] fun K hK => ?_
    try simp only [go_sem, seval]
    repeat (first | (refine And.intro ?_ ?_; · first | exact bys_isByte _ | exact fun _ => bys_isByte _) | refine peel ?_)
    refine hK _ _ _ ?_; clear hK K
    refine awp_ret ?_
    try simp only [go_sem, seval]
    refine ⟨_, rfl, fun k hk => ?_, Frz.eq ?_ trivial⟩
    · (repeat rw [if_neg (by omega)])
      try exact hlow k hk
    · congr 1; first | (simp [hne]; done) | (simp [heq, hl.2.1, hl.2.2]; done)
theorem c_ref14_SameReply (a b : RepE) (ha : a.rows.length ≤ 1048576) (hc : ∀ x ∈ a.rows, x.cells.length ≤ 1048576) (H : Heap) (n : Nat) : Ret Tryz.prog 38 [repAV a, repAV b] H n (.bool (decide (a = b))) H n := by
  refine Ret.fin ?_
  refine acalls_of_awp Tryz.func38 rfl Tryz.ntmps38 (congrArg Array.toList Tryz.results38) (by simp) ?_
  simp only [go_sem]
  refine awp_reg zs [2, 3] fun K hK => ?_
  try simp only [go_sem, seval, repAV, bys]
  refine hK _ _ _ ?_; clear hK K
  refine awp_seq_k fun K1 hK1 => ?_
  refine awp_reg zs [2, 3, 23] fun K hK => ?_
  try simp only [go_sem, seval]
  repeat refine peel ?_
  refine hK _ _ _ ?_; clear hK K
  refine awp_cnd (fun hb => ?_) (fun hb => ?_)
  ·skip
   have hne : ¬ a = b := fun e => by subst e; simp at hb
   refine awp_reg zs [4] fun K hK => ?_
   try simp only [go_sem, seval]
   refine hK _ _ _ ?_; clear hK K
   refine awp_ret ?_
   try simp only [go_sem, seval]
   refine ⟨_, rfl, fun k hk => ?_, Frz.eq ?_ trivial⟩
   · (repeat rw [if_neg (by omega)])
   · congr 1; first | (simp [hne]; done) | (rw [Bool.eq_iff_iff, decide_eq_true_eq, decide_eq_true_eq, rep_ext]; grind)
  ·skip
   have hh : a.err = b.err ∧ a.held = b.held ∧ a.value = b.value := by grind
   refine awp_skip ?_
   try simp only [go_sem, seval]
   refine hK1 _ _ _ ?_
   first | clear hK1 K1 | skip
   refine awp_reg zs [4] fun K hK => ?_
   try simp only [go_sem, seval]
   refine callK_use Tryz.func96 rfl rfl rfl ((c_ref14_SamePage a b ha hc _ _)) ?_
   try simp only [go_sem, seval]
   refine hK _ _ _ ?_; clear hK K
   refine awp_ret ?_
   try simp only [go_sem, seval]
   refine ⟨_, rfl, fun k hk => ?_, Frz.eq ?_ trivial⟩
   · (repeat rw [if_neg (by omega)])
   · congr 1; first | (simp [hne]; done) | (rw [Bool.eq_iff_iff, decide_eq_true_eq, decide_eq_true_eq, rep_ext]; grind)
end Go.Proofs.YtifnhpmeoogedaaGreatDoor
namespace Go.Proofs.YtifnhpmeoogedaaGreatDoor
open Go Go.Sx Go.Rt Go.Proofs
theorem c_ref2_out (x lo hi : Int) (H : Heap) (n : Nat) : Ret Tryz.prog 118 [.int .i64 x, .int .i64 lo, .int .i64 hi] H n (.bool (bout x lo hi)) H n := by
  refine acalls_of_awp Tryz.func118 rfl Tryz.ntmps118 (congrArg Array.toList Tryz.results118) (by simp) ?_
  simp only [go_sem]
  refine awp_rq zs [0, 1, 2] ?_
  refine awp_rq zs [6] ?_
  refine awp_ret ?_
  try simp only [go_sem, seval]
  unfold bout; by_cases h : x < lo <;> simp [h]
theorem c_ref2_name (s : List UInt8) (H : Heap) (n : Nat) : Ret Tryz.prog 119 [.str s] H n (.bool (namedB s)) H n := by
  refine acalls_of_awp Tryz.func119 rfl Tryz.ntmps119 (congrArg Array.toList Tryz.results119) (by simp) ?_
  simp only [go_sem]
  refine awp_rq zs [0] ?_
  refine awp_seq_k fun K1 hK1 => ?_
  refine awp_reg zs [0, 8] fun K hK => ?_
  try simp only [go_sem, seval]
  refine callK_use Tryz.func118 rfl rfl rfl ((by apply c_ref2_out <;> first | assumption | omega)) ?_
  refine hK _ _ _ ?_; clear hK K
  refine awp_cnd (fun hb => ?_) (fun hb => ?_)
  ·skip
   have hend : namedB s = false := by unfold namedB; rw [hb]; rfl
   refine awp_rq zs [2] ?_
   refine awp_ret ?_
   try simp only [go_sem, seval]
   rw [hend]
  ·skip
   have hlen := bout_false hb
   have hb8 : bout s.length 1 32 = false := hb
   refine awp_skip ?_
   try simp only [go_sem, seval]
   refine hK1 _ _ _ ?_
   first | clear hK1 K1 | skip
   refine awp_seq_k fun K2 hK2 => ?_
   refine awp_rq zs [0, 3] ?_
   refine awp_block ?_
   refine awp_loop (fun T' H' n' => ∃ i : Nat, i ≤ s.length ∧ T' = tl [(0, .str s), (3, .int .i64 i)] ∧ H' = H ∧ n' = n ∧ (s.drop i).all nameB = s.all nameB ∧ (0 < i → letterB (s.getD 0 0) = true)) (fun T' _ _ => s.length - iv (T' 3)) ?_ ?_
   ·skip
    exact ⟨0, Nat.zero_le _, rfl, rfl, rfl, by simp, fun h => absurd h (by decide)⟩
   intro T1 H1 n1
   rintro ⟨i, hi, rfl, rfl, rfl, hall, hl0⟩
   refine awp_seq_k fun K3 hK3 => ?_
   refine awp_rq zs [0, 3, 12] ?_
   refine awp_cnd (fun hb => ?_) (fun hb => ?_)
   ·skip
    have hlt : i < s.length := by simpa using hb
    rw [drop_cons s i hlt, List.all_cons] at hall
    have hg0 : i = 0 → s.getD 0 0 = s.getD i default := fun h => by rw [h]; rfl
    refine awp_skip ?_
    try simp only [go_sem, seval]
    refine hK3 _ _ _ ?_
    first | clear hK3 K3 | skip
    refine awp_seq_k fun K4 hK4 => ?_
    refine awp_block ?_
    refine awp_reg zs [0, 3, 4] fun K hK => ?_
    try simp only [go_sem, seval, Int.toNat_natCast]
    repeat refine peel ?_
    refine hK _ _ _ ?_; clear hK K
    generalize hc : s.getD i default = c at *
    have hc0 : s.getD i 0 = c := hc
    refine awp_reg zs [0, 3, 4, 5] fun K hK => ?_
    try simp only [go_sem, seval, hc0]
    repeat refine peel ?_
    refine hK _ _ _ ?_; clear hK K
    have hA : (bif decide (97 ≤ (c.toNat : Int)) then decide ((c.toNat : Int) ≤ 122) else false) = letterB c := by unfold letterB; cases decide (97 ≤ (c.toNat : Int)) <;> rfl
    refine awp_rq zs [0, 3, 41] ?_
    refine awp_cnd (fun hb => ?_) (fun hb => ?_)
    ·skip
     rw [hA] at hb
     have hend : namedB s = false := by
       by_cases h0 : i = 0
       · have h1 : letterB c = false := by cases h9 : letterB c <;> simp_all
         unfold namedB; rw [hg0 h0, h1]; simp
       · have h2 : nameB c = false := by
           unfold nameB
           have h3 : ((i : Int) == 0) = false := by simp; omega
           rw [h3] at hb
           cases h4 : letterB c <;> cases h5 : decide ((c.toNat : Int) < 48) <;> cases h6 : decide (57 < (c.toNat : Int)) <;> cases h7 : ((c.toNat : Int) != 95) <;> simp_all
         rw [h2] at hall
         unfold namedB; rw [← hall]; simp
     refine awp_rq zs [2] ?_
     refine awp_ret ?_
     try simp only [go_sem, seval]
     rw [hend]
    ·skip
     rw [hA] at hb
     have h2 : nameB c = true := by
       unfold nameB
       cases h3 : ((i : Int) == 0) <;> rw [h3] at hb <;> cases h4 : letterB c <;> cases h5 : decide ((c.toNat : Int) < 48) <;> cases h6 : decide (57 < (c.toNat : Int)) <;> cases h7 : ((c.toNat : Int) != 95) <;> simp_all
     have h3 : letterB (s.getD 0 0) = true := by
       by_cases h0 : i = 0
       · rw [hg0 h0]; cases h9 : letterB c <;> simp_all
       · exact hl0 (by omega)
     rw [h2, Bool.true_and] at hall
     refine awp_skip ?_
     try simp only [go_sem, seval]
     refine hK4 _ _ _ ?_
     first | clear hK4 K4 | skip
     refine awp_reg1 zs [0, 3] fun K hK => ?_
     try simp only [go_sem, seval]
     refine hK _ _ _ ?_; clear hK K
     try simp only [go_sem, seval]
     exact ⟨⟨i + 1, by omega, by rw [w1 (by omega)], hall, fun _ => h3⟩, by rw [w1 (by omega)]; simp; omega⟩
   ·skip
    have hge : i = s.length := by simp at hb; omega
    have hend : namedB s = true := by
      unfold namedB
      rw [hb8, hl0 (by omega), ← hall, hge]; simp
    refine awp_exit ?_
    try simp only [go_sem, seval]
    refine hK2 _ _ _ ?_
    first | clear hK2 K2 | skip
    refine awp_rq zs [2] ?_
    refine awp_ret ?_
    try simp only [go_sem, seval]
    rw [hend]
theorem c_ref2_Family (s : List Fml) (name : List UInt8) (hl : s.length ≤ 1048576) (H : Heap) (n : Nat) : Ret Tryz.prog 120 [schAV s, .str name] H n (.int .i64 (famIx s name 0)) H n := by
  refine Ret.fin ?_
  refine acalls_of_awp Tryz.func120 rfl Tryz.ntmps120 (congrArg Array.toList Tryz.results120) (by simp) ?_
  simp only [go_sem]
  refine awp_rq zs [1, 2] ?_
  refine awp_seq_k fun K1 hK1 => ?_
  refine awp_rq zs [1, 2, 5] ?_
  refine awp_block ?_
  refine awp_loop (fun T' H' n' => ∃ i : Nat, i ≤ s.length ∧ T' = tl [(1, .str name), (2, .loc n 0 0 0 []), (5, .int .i64 i)] ∧ H' = H.put n (some (.arr 0 1 [.agg [.sl 3 (s.map famAV)]])) ∧ n' = n + 1 ∧ famIx (s.drop i) name i = famIx s name 0) (fun T' _ _ => s.length - iv (T' 5)) ?_ ?_
  ·skip
   exact ⟨0, Nat.zero_le _, rfl, rfl, rfl, rfl⟩
  intro T1 H1 n1
  rintro ⟨i, hi, rfl, rfl, rfl, hix⟩
  refine awp_seq_k fun K2 hK2 => ?_
  refine awp_rq zs [1, 2, 5, 10] ?_
  refine awp_cnd (fun hb => ?_) (fun hb => ?_)
  ·skip
   have hlt : i < s.length := by simpa using hb
   rw [drop_cons s i hlt, famIx] at hix
   have hnth : nth (s.map famAV) i = famAV (s.getD i default) := nth_map famAV s i hlt
   refine awp_skip ?_
   try simp only [go_sem, seval]
   refine hK2 _ _ _ ?_
   first | clear hK2 K2 | skip
   refine awp_seq_k fun K3 hK3 => ?_
   refine awp_block ?_
   refine awp_reg zs [1, 2, 5, 20] fun K hK => ?_
   try simp only [go_sem, seval, Int.toNat_natCast, hnth]
   repeat refine peel ?_
   refine hK _ _ _ ?_; clear hK K
   refine awp_cnd (fun hb => ?_) (fun hb => ?_)
   ·skip
    have he : (s.getD i default).name = name := by simpa using hb
    rw [if_pos he] at hix
    refine awp_rq zs [4] ?_
    refine awp_ret ?_
    try simp only [go_sem, seval]
    refine ⟨_, rfl, ?_, Frz.eq ?_ trivial⟩
    · intro k hk; have h0 : k ≠ n := by omega
      simp [Heap.put, h0]
    rw [← hix]
   ·skip
    have he : ¬ (s.getD i default).name = name := by simpa using hb
    rw [if_neg he] at hix
    refine awp_skip ?_
    try simp only [go_sem, seval]
    refine hK3 _ _ _ ?_
    first | clear hK3 K3 | skip
    refine awp_reg1 zs [1, 2, 5] fun K hK => ?_
    try simp only [go_sem, seval]
    refine hK _ _ _ ?_; clear hK K
    try simp only [go_sem, seval]
    refine ⟨⟨i + 1, by omega, by rw [w1 (by omega)], hix⟩, by rw [w1 (by omega)]; simp; omega⟩
  ·skip
   have hge : i = s.length := by simp at hb; omega
   have hix : (-1 : Int) = famIx s name 0 := by rw [← hix, hge]; simp [famIx]
   refine awp_exit ?_
   try simp only [go_sem, seval]
   refine hK1 _ _ _ ?_
   first | clear hK1 K1 | skip
   refine awp_rq zs [4] ?_
   refine awp_ret ?_
   try simp only [go_sem, seval]
   refine ⟨_, rfl, ?_, Frz.eq ?_ trivial⟩
   · intro k hk; have h0 : k ≠ n := by omega
     simp [Heap.put, h0]
   rw [← hix]
theorem c_ref2_CheckSchema (s : List Fml) (H : Heap) (n : Nat) : Ret Tryz.prog 56 [schAV s] H n (.int .i64 (schemaE s)) H n := by
  refine Ret.fin ?_
  refine acalls_of_awp Tryz.func56 rfl Tryz.ntmps56 (congrArg Array.toList Tryz.results56) (by simp) ?_
  simp only [go_sem]
  refine awp_rq zs [1] ?_
  refine awp_seq_k fun K1 hK1 => ?_
  refine awp_reg zs [1, 8] fun K hK => ?_
  try simp only [go_sem, seval]
  refine callK_use Tryz.func118 rfl rfl rfl ((by apply c_ref2_out <;> first | assumption | omega)) ?_
  refine hK _ _ _ ?_; clear hK K
  refine awp_cnd (fun hb => ?_) (fun hb => ?_)
  ·skip
   have hres : (28 : Int) = schemaE s := by
     have : bout s.length 1 8 = true := by simpa using hb
     simp [schemaE, this]
   refine awp_rq zs [2] ?_
   refine awp_ret ?_
   try simp only [go_sem, seval]
   refine ⟨_, rfl, ?_, Frz.eq (by rw [hres]) trivial⟩
   intro k hk; have h0 : k ≠ n := by omega
   first | (simp [Heap.put, h0]; done) | exact hH k hk | (have h1 : k ≠ n1 := (by omega); simp [Heap.put, h0, h1, hH k hk])
  ·skip
   have hb8 : bout s.length 1 8 = false := by simpa using hb
   have hlen := bout_false hb8
   refine awp_skip ?_
   try simp only [go_sem, seval]
   refine hK1 _ _ _ ?_
   first | clear hK1 K1 | skip
   refine awp_seq_k fun K2 hK2 => ?_
   refine awp_rq zs [1, 3] ?_
   refine awp_block ?_
   refine awp_loop (fun T' H' n' => ∃ i : Nat, i ≤ s.length ∧ T' = tl [(1, .loc n 0 0 0 []), (3, .int .i64 i)] ∧ n + 1 ≤ n' ∧ H' n = some (.arr 0 1 [.agg [.sl 3 (s.map famAV)]]) ∧ (∀ k, k < n → H' k = H k) ∧ famsBad s (s.drop i) i = famsBad s s 0) (fun T' _ _ => s.length - iv (T' 3)) ?_ ?_
   ·skip
    exact ⟨0, Nat.zero_le _, rfl, by omega, Heap.put_same _ _ _, fun k hk => Heap.put_ne _ _ (by omega), rfl⟩
   intro T1 H1 n1
   rintro ⟨i, hi, rfl, hn, hHn, hH, hix⟩
   refine awp_seq_k fun K3 hK3 => ?_
   refine awp_reg zs [1, 3, 13] fun K hK => ?_
   try simp only [go_sem, seval, hHn]
   refine hK _ _ _ ?_; clear hK K
   refine awp_cnd (fun hb => ?_) (fun hb => ?_)
   ·skip
    have hlt : i < s.length := by simpa using hb
    rw [drop_cons s i hlt, famsBad_cons] at hix
    have hn1 : (n = n1) = False := by simp; omega
    have hnth : nth (s.map famAV) i = famAV (s.getD i default) := nth_map famAV s i hlt
    refine awp_skip ?_
    try simp only [go_sem, seval]
    refine hK3 _ _ _ ?_
    first | clear hK3 K3 | skip
    refine awp_seq_k fun K4 hK4 => ?_
    refine awp_block ?_
    refine awp_reg zs [1, 3, 4] fun K hK => ?_
    try simp only [go_sem, seval, Int.toNat_natCast, hnth, hHn]
    repeat refine peel ?_
    refine hK _ _ _ ?_; clear hK K
    refine awp_reg zs [1, 3, 42] fun K hK => ?_
    try simp only [go_sem, seval, Int.toNat_natCast]
    refine callK_use Tryz.func119 rfl rfl rfl ((c_ref2_name (s.getD i default).name _ _)) ?_
    try simp only [go_sem, seval]
    refine callG_use Tryz.func118 rfl rfl rfl (fun _ => (c_ref2_out (s.getD i default).max 1 16 _ _)) ?_
    try simp only [go_sem, seval]
    repeat refine peel ?_
    refine callG_use Tryz.func118 rfl rfl rfl (fun _ => (c_ref2_out (s.getD i default).ttl 0 1099511627776 _ _)) ?_
    try simp only [go_sem, seval, hn1, hHn]
    repeat refine peel ?_
    refine callG_use Tryz.func120 rfl rfl rfl (fun _ => (c_ref2_Family s (s.getD i default).name (by omega) _ _)) ?_
    try simp only [go_sem, seval]
    repeat refine peel ?_
    refine hK _ _ _ ?_; clear hK K
    refine awp_cnd (fun hb => ?_) (fun hb => ?_)
    ·skip
     have hbad : famBad s (s.getD i default) i = true := by
       simp only [famBad]; cases h1 : namedB (s.getD i default).name <;> cases h2 : bout (s.getD i default).max 1 16 <;> cases h3 : bout (s.getD i default).ttl 0 1099511627776 <;> simp_all
     have hres : (28 : Int) = schemaE s := by rw [hbad] at hix; simp [schemaE, hb8, ← hix]
     refine awp_rq zs [2] ?_
     refine awp_ret ?_
     try simp only [go_sem, seval]
     refine ⟨_, rfl, ?_, Frz.eq (by rw [hres]) trivial⟩
     intro k hk; have h0 : k ≠ n := by omega
     first | (simp [Heap.put, h0]; done) | exact hH k hk | (have h1 : k ≠ n1 := (by omega); simp [Heap.put, h0, h1, hH k hk])
    ·skip
     have hbad : famBad s (s.getD i default) i = false := by
       simp only [famBad]; cases h1 : namedB (s.getD i default).name <;> cases h2 : bout (s.getD i default).max 1 16 <;> cases h3 : bout (s.getD i default).ttl 0 1099511627776 <;> simp_all
     rw [hbad, Bool.false_or] at hix
     refine awp_skip ?_
     try simp only [go_sem, seval]
     refine hK4 _ _ _ ?_
     first | clear hK4 K4 | skip
     refine awp_reg1 zs [1, 3] fun K hK => ?_
     try simp only [go_sem, seval]
     refine hK _ _ _ ?_; clear hK K
     try simp only [go_sem, seval]
     refine ⟨⟨i + 1, by omega, by rw [w1 (by omega)], by omega, ?_, ?_, hix⟩, by rw [w1 (by omega)]; simp; omega⟩
     · simp [hn1, hHn, schAV]
     · intro k hk; have h0 : k ≠ n1 := by omega
       simp [h0, hH k hk]
   ·skip
    have hge : i = s.length := by simp at hb; omega
    have hres : (0 : Int) = schemaE s := by rw [hge] at hix; simp [famsBad] at hix; simp [schemaE, hb8, hix]
    refine awp_exit ?_
    try simp only [go_sem, seval]
    refine hK2 _ _ _ ?_
    first | clear hK2 K2 | skip
    refine awp_rq zs [2] ?_
    refine awp_ret ?_
    try simp only [go_sem, seval]
    refine ⟨_, rfl, ?_, Frz.eq (by rw [hres]) trivial⟩
    intro k hk; have h0 : k ≠ n := by omega
    first | (simp [Heap.put, h0]; done) | exact hH k hk | (have h1 : k ≠ n1 := (by omega); simp [Heap.put, h0, h1, hH k hk])
def listsE (nf : Nat) (c : CmdE) : Int :=
  if c.kind ≠ 4 then (if 0 < c.row.length then 20 else if 0 < c.conds.length then 146 else if 0 < c.ops.length then 144 else 0)
  else if bout c.row.length 1 256 then 20 else if 8 < c.conds.length then 146 else if c.conds.all (condOK nf) = false then 146 else if bout c.ops.length 1 16 then 144 else if c.ops.all (opOK nf) = false then 145 else 0
set_option maxRecDepth 100000 in
set_option maxHeartbeats 3200000 in
theorem c_ref14_lists (s : List Fml) (hs : s.length ≤ 2000000) (c : CmdE) (H : Heap) (n : Nat) : Ret Tryz.prog 59 [schAV s, cmdAV c] H n (.int .i64 (listsE s.length c)) H n := by
  have hsz := qryAV_sz c.q
  have haq : (qryAV c.q).isAgg = true := rfl
  have hmq : (qryAV c.q).memOK = true := rfl
  have hszs : (schAV s).sz = 1 := rfl
  have hags : (schAV s).isAgg = true := rfl
  have hmos : (schAV s).memOK = true := rfl
  have hv0 : ∀ x, (condAV x).sz = 4 := fun _ => rfl
  have hw0 : ∀ x, (condAV x).isAgg = true := fun _ => rfl
  have hm0 : ∀ x, (condAV x).memOK = true := fun _ => rfl
  have hv1 : ∀ x, (opAV x).sz = 6 := fun _ => rfl
  have hw1 : ∀ x, (opAV x).isAgg = true := fun _ => rfl
  have hm1 : ∀ x, (opAV x).memOK = true := fun _ => rfl
  refine Ret.fin ?_
  refine acalls_of_awp Tryz.func59 rfl Tryz.ntmps59 (congrArg Array.toList Tryz.results59) (by simp) ?_
  simp only [go_sem]
  refine awp_reg zs [2, 3] fun K hK => ?_
  try simp only [go_sem, seval, cmdAV, bys, hsz]
  refine hK _ _ _ ?_; clear hK K
  refine awp_seq_k fun K1 hK1 => ?_
  refine awp_reg zs [2, 3, 11] fun K hK => ?_
  try simp only [go_sem, seval]
  refine hK _ _ _ ?_; clear hK K
  refine awp_cnd (fun hb => ?_) (fun hb => ?_)
  ·skip
   have h4 : c.kind ≠ 4 := by simpa using hb
   refine awp_seq_k fun K2 hK2 => ?_
   refine awp_block ?_
   refine awp_reg zs [3, 12] fun K hK => ?_
   try simp only [go_sem, seval, List.length_map]
   refine hK _ _ _ ?_; clear hK K
   refine awp_cnd (fun hb => ?_) (fun hb => ?_)
   ·skip
    have h5 : 0 < c.row.length := by simp at hb; omega
    have hd : listsE s.length c = 20 := by unfold listsE; rw [if_pos h4, if_pos h5]
    refine awp_reg zs [4] fun K hK => ?_
    try simp only [go_sem, seval]
    refine hK _ _ _ ?_; clear hK K
    refine awp_ret ?_
    try simp only [go_sem, seval]
    refine ⟨_, rfl, fun k hk => ?_, Frz.eq (by rw [hd]) trivial⟩
    (repeat rw [if_neg (by omega)])
   ·skip
    have h5 : ¬ 0 < c.row.length := by have := of_decide_eq_false hb; omega
    refine awp_reg zs [3, 17] fun K hK => ?_
    try simp only [go_sem, seval, List.length_map]
    refine hK _ _ _ ?_; clear hK K
    refine awp_cnd (fun hb => ?_) (fun hb => ?_)
    ·skip
     have h6 : 0 < c.conds.length := by simp at hb; omega
     have hd : listsE s.length c = 146 := by unfold listsE; rw [if_pos h4, if_neg h5, if_pos h6]
     refine awp_reg zs [4] fun K hK => ?_
     try simp only [go_sem, seval]
     refine hK _ _ _ ?_; clear hK K
     refine awp_ret ?_
     try simp only [go_sem, seval]
     refine ⟨_, rfl, fun k hk => ?_, Frz.eq (by rw [hd]) trivial⟩
     (repeat rw [if_neg (by omega)])
    ·skip
     have h6 : ¬ 0 < c.conds.length := by have := of_decide_eq_false hb; omega
     refine awp_reg zs [22] fun K hK => ?_
     try simp only [go_sem, seval, List.length_map]
     refine hK _ _ _ ?_; clear hK K
     refine awp_cnd (fun hb => ?_) (fun hb => ?_)
     ·skip
      have h7 : 0 < c.ops.length := by simp at hb; omega
      have hd : listsE s.length c = 144 := by unfold listsE; rw [if_pos h4, if_neg h5, if_neg h6, if_pos h7]
      refine awp_reg zs [4] fun K hK => ?_
      try simp only [go_sem, seval]
      refine hK _ _ _ ?_; clear hK K
      refine awp_ret ?_
      try simp only [go_sem, seval]
      refine ⟨_, rfl, fun k hk => ?_, Frz.eq (by rw [hd]) trivial⟩
      (repeat rw [if_neg (by omega)])
     ·skip
      have h7 : ¬ 0 < c.ops.length := by have := of_decide_eq_false hb; omega
      have hd : listsE s.length c = 0 := by unfold listsE; rw [if_pos h4, if_neg h5, if_neg h6, if_neg h7]
      refine awp_skip ?_
      try simp only [go_sem, seval]
      refine hK2 _ _ _ ?_
      first | clear hK2 K2 | skip
      refine awp_reg zs [4] fun K hK => ?_
      try simp only [go_sem, seval]
      refine hK _ _ _ ?_; clear hK K
      refine awp_ret ?_
      try simp only [go_sem, seval]
      refine ⟨_, rfl, fun k hk => ?_, Frz.eq (by rw [hd]) trivial⟩
      (repeat rw [if_neg (by omega)])
  ·skip
   have h4 : c.kind = 4 := by simpa using hb
   refine awp_skip ?_
   try simp only [go_sem, seval]
   refine hK1 _ _ _ ?_
   first | clear hK1 K1 | skip
   refine awp_seq_k fun K3 hK3 => ?_
   refine awp_reg zs [2, 3, 30] fun K hK => ?_
   try simp only [go_sem, seval, List.length_map]
   refine callK_use Tryz.func57 rfl rfl rfl ((c_ref14_out c.row.length 1 256 _ _)) ?_
   refine hK _ _ _ ?_; clear hK K
   refine awp_cnd (fun hb => ?_) (fun hb => ?_)
   ·skip
    have h8 : bout c.row.length 1 256 = true := hb
    have hd : listsE s.length c = 20 := by unfold listsE; simp [h4, h8]
    refine awp_reg zs [4] fun K hK => ?_
    try simp only [go_sem, seval]
    refine hK _ _ _ ?_; clear hK K
    refine awp_ret ?_
    try simp only [go_sem, seval]
    refine ⟨_, rfl, fun k hk => ?_, Frz.eq (by rw [hd]) trivial⟩
    (repeat rw [if_neg (by omega)])
   ·skip
    have h8 : bout c.row.length 1 256 = false := hb
    refine awp_skip ?_
    try simp only [go_sem, seval]
    refine hK3 _ _ _ ?_
    first | clear hK3 K3 | skip
    refine awp_seq_k fun K4 hK4 => ?_
    refine awp_reg zs [2, 3, 34] fun K hK => ?_
    try simp only [go_sem, seval, List.length_map]
    refine hK _ _ _ ?_; clear hK K
    refine awp_cnd (fun hb => ?_) (fun hb => ?_)
    ·skip
     have h9 : 8 < c.conds.length := by simp at hb; omega
     have hd : listsE s.length c = 146 := by unfold listsE; simp [h4, h8, h9]
     refine awp_reg zs [4] fun K hK => ?_
     try simp only [go_sem, seval]
     refine hK _ _ _ ?_; clear hK K
     refine awp_ret ?_
     try simp only [go_sem, seval]
     refine ⟨_, rfl, fun k hk => ?_, Frz.eq (by rw [hd]) trivial⟩
     (repeat rw [if_neg (by omega)])
    ·skip
     have h9 : ¬ 8 < c.conds.length := by simp at hb; omega
     refine awp_skip ?_
     try simp only [go_sem, seval]
     refine hK4 _ _ _ ?_
     first | clear hK4 K4 | skip
     refine awp_seq_k fun K5 hK5 => ?_
     refine awp_reg zs [2, 3, 5] fun K hK => ?_
     try simp only [go_sem, seval]
     refine hK _ _ _ ?_; clear hK K
     refine awp_block ?_
     refine awp_loop (fun T' H' n' => ∃ i : Nat, i ≤ c.conds.length ∧ T' = tl [(2, .loc n 0 0 0 []), (3, .loc (n + 1) 0 0 0 []), (5, .int .i64 i)] ∧ H' = (H.put n (some (.arr 0 1 [schAV s]))).put (n + 1) (some (.arr 0 17 [cmdAV c])) ∧ n' = n + 2 ∧ c.conds.all (condOK s.length) = (c.conds.drop i).all (condOK s.length)) (fun T' _ _ => c.conds.length - iv (T' 5)) ?_ ?_
     ·skip
      exact ⟨0, Nat.zero_le _, rfl, rfl, rfl, by simp⟩
     intro T1 H1 n1
     rintro ⟨i, hi, rfl, rfl, rfl, hix⟩
     refine awp_seq_k fun K6 hK6 => ?_
     refine awp_reg zs [2, 3, 5, 39] fun K hK => ?_
     try simp only [go_sem, seval, cmdAV, List.length_map, bys]
     refine hK _ _ _ ?_; clear hK K
     refine awp_cnd (fun hb => ?_) (fun hb => ?_)
     ·skip
      have hlt : i < c.conds.length := by have := of_decide_eq_true hb; omega
      rw [all_drop_succ _ _ hlt] at hix
      have hn1 : nth (c.conds.map condAV) i = condAV (c.conds.getD i default) := nth_map condAV c.conds i hlt
      generalize c.conds.getD i default = x at *
      refine awp_skip ?_
      try simp only [go_sem, seval, cmdAV, bys]
      refine hK6 _ _ _ ?_
      first | clear hK6 K6 | skip
      refine awp_seq_k fun K7 hK7 => ?_
      refine awp_block ?_
      refine awp_drw rfl zs [2, 3, 5, 6] [.q, .q, .q, .m, .q, .q, .c, .q] (by kernel_rfl) (fun _ _ _ _ _ h => h) fun K hK => ?_
      try simp only [go_sem, seval, cmdAV, List.length_map, bys, Int.toNat_natCast, hn1, hv0, hw0]
      repeat refine peel ?_
      refine callQG_use Tryz.func121 rfl rfl rfl (fun _ n => (c_ref14_cond s hs x _ _)) ?_
      try simp only [go_sem, seval]
      refine hK _ _ _ ?_; clear hK K
      refine awp_reg zs [2, 3, 5, 50] fun K hK => ?_
      try simp only [go_sem, seval, cmdAV, bys]
      refine hK _ _ _ ?_; clear hK K
      refine awp_cnd (fun hb => ?_) (fun hb => ?_)
      ·skip
       have hx : condOK s.length x = false := by simpa using hb
       have hd : listsE s.length c = 146 := by unfold listsE; simp_all
       refine awp_reg zs [4] fun K hK => ?_
       try simp only [go_sem, seval, cmdAV, bys]
       refine hK _ _ _ ?_; clear hK K
       refine awp_ret ?_
       try simp only [go_sem, seval, cmdAV, bys]
       refine ⟨_, rfl, fun k hk => ?_, Frz.eq (by rw [hd]) trivial⟩
       (repeat rw [if_neg (by omega)])
      ·skip
       have hx : condOK s.length x = true := by simpa using hb
       rw [hx, Bool.true_and] at hix
       refine awp_skip ?_
       try simp only [go_sem, seval, cmdAV, bys]
       refine hK7 _ _ _ ?_
       first | clear hK7 K7 | skip
       refine awp_reg1 zs [2, 3, 5] fun K hK => ?_
       try simp only [go_sem, seval, cmdAV, bys]
       refine hK _ _ _ ?_; clear hK K
       try simp only [go_sem, seval, cmdAV, bys]
       exact ⟨⟨i + 1, by omega, by rw [w1 (by omega)], hix⟩, by rw [w1 (by omega)]; simp; omega⟩
     ·skip
      have hall0 : c.conds.all (condOK s.length) = true := by have : i = c.conds.length := (by have := of_decide_eq_false hb; omega); rw [hix, this]; simp
      refine awp_exit ?_
      try simp only [go_sem, seval, cmdAV, bys]
      refine hK5 _ _ _ ?_
      first | clear hK5 K5 | skip
      refine awp_seq_k fun K8 hK8 => ?_
      refine awp_reg zs [2, 3, 54] fun K hK => ?_
      try simp only [go_sem, seval, List.length_map]
      refine callK_use Tryz.func57 rfl rfl rfl ((c_ref14_out c.ops.length 1 16 _ _)) ?_
      refine hK _ _ _ ?_; clear hK K
      refine awp_cnd (fun hb => ?_) (fun hb => ?_)
      ·skip
       have h10 : bout c.ops.length 1 16 = true := hb
       have hd : listsE s.length c = 144 := by unfold listsE; rw [if_neg (by simp [h4]), if_neg (by rw [h8]; simp), if_neg h9, if_neg (by rw [hall0]; simp), if_pos h10]
       refine awp_reg zs [4] fun K hK => ?_
       try simp only [go_sem, seval]
       refine hK _ _ _ ?_; clear hK K
       refine awp_ret ?_
       try simp only [go_sem, seval]
       refine ⟨_, rfl, fun k hk => ?_, Frz.eq (by rw [hd]) trivial⟩
       (repeat rw [if_neg (by omega)])
      ·skip
       have h10 : bout c.ops.length 1 16 = false := hb
       have hol := bout_false h10
       refine awp_skip ?_
       try simp only [go_sem, seval]
       refine hK8 _ _ _ ?_
       first | clear hK8 K8 | skip
       refine awp_seq_k fun K9 hK9 => ?_
       refine awp_reg zs [2, 3, 7] fun K hK => ?_
       try simp only [go_sem, seval]
       refine hK _ _ _ ?_; clear hK K
       refine awp_block ?_
       refine awp_loop (fun T' H' n' => ∃ i : Nat, i ≤ c.ops.length ∧ T' = tl [(2, .loc n 0 0 0 []), (3, .loc (n + 1) 0 0 0 []), (7, .int .i64 i)] ∧ H' = (H.put n (some (.arr 0 1 [schAV s]))).put (n + 1) (some (.arr 0 17 [cmdAV c])) ∧ n' = n + 2 ∧ c.ops.all (opOK s.length) = (c.ops.drop i).all (opOK s.length)) (fun T' _ _ => c.ops.length - iv (T' 7)) ?_ ?_
       ·skip
        exact ⟨0, Nat.zero_le _, rfl, rfl, rfl, by simp⟩
       intro T1 H1 n1
       rintro ⟨i, hi, rfl, rfl, rfl, hix⟩
       refine awp_seq_k fun K10 hK10 => ?_
       refine awp_reg zs [2, 3, 7, 59] fun K hK => ?_
       try simp only [go_sem, seval, cmdAV, List.length_map, bys]
       refine hK _ _ _ ?_; clear hK K
       refine awp_cnd (fun hb => ?_) (fun hb => ?_)
       ·skip
        have hlt : i < c.ops.length := by have := of_decide_eq_true hb; omega
        rw [all_drop_succ _ _ hlt] at hix
        have hn1 : nth (c.ops.map opAV) i = opAV (c.ops.getD i default) := nth_map opAV c.ops i hlt
        generalize c.ops.getD i default = x at *
        refine awp_skip ?_
        try simp only [go_sem, seval, cmdAV, bys]
        refine hK10 _ _ _ ?_
        first | clear hK10 K10 | skip
        refine awp_seq_k fun K11 hK11 => ?_
        refine awp_block ?_
        refine awp_drw rfl zs [2, 3, 7, 8] [.q, .q, .q, .m, .q, .q, .c, .q] (by kernel_rfl) (fun _ _ _ _ _ h => h) fun K hK => ?_
        try simp only [go_sem, seval, cmdAV, List.length_map, bys, Int.toNat_natCast, hn1, hv1, hw1]
        repeat refine peel ?_
        refine callQG_use Tryz.func122 rfl rfl rfl (fun _ n => (c_ref14_op s hs x _ _)) ?_
        try simp only [go_sem, seval]
        refine hK _ _ _ ?_; clear hK K
        refine awp_reg zs [2, 3, 7, 70] fun K hK => ?_
        try simp only [go_sem, seval, cmdAV, bys]
        refine hK _ _ _ ?_; clear hK K
        refine awp_cnd (fun hb => ?_) (fun hb => ?_)
        ·skip
         have hx : opOK s.length x = false := by simpa using hb
         have hd : listsE s.length c = 145 := by unfold listsE; rw [if_neg (by simp [h4]), if_neg (by rw [h8]; simp), if_neg h9, if_neg (by rw [hall0]; simp), if_neg (by rw [h10]; simp), if_pos (by rw [hix, hx]; rfl)]
         refine awp_reg zs [4] fun K hK => ?_
         try simp only [go_sem, seval, cmdAV, bys]
         refine hK _ _ _ ?_; clear hK K
         refine awp_ret ?_
         try simp only [go_sem, seval, cmdAV, bys]
         refine ⟨_, rfl, fun k hk => ?_, Frz.eq (by rw [hd]) trivial⟩
         (repeat rw [if_neg (by omega)])
        ·skip
         have hx : opOK s.length x = true := by simpa using hb
         rw [hx, Bool.true_and] at hix
         refine awp_skip ?_
         try simp only [go_sem, seval, cmdAV, bys]
         refine hK11 _ _ _ ?_
         first | clear hK11 K11 | skip
         refine awp_reg1 zs [2, 3, 7] fun K hK => ?_
         try simp only [go_sem, seval, cmdAV, bys]
         refine hK _ _ _ ?_; clear hK K
         try simp only [go_sem, seval, cmdAV, bys]
         exact ⟨⟨i + 1, by omega, by rw [w1 (by omega)], hix⟩, by rw [w1 (by omega)]; simp; omega⟩
       ·skip
        have hall1 : c.ops.all (opOK s.length) = true := by have : i = c.ops.length := (by have := of_decide_eq_false hb; omega); rw [hix, this]; simp
        have hd : listsE s.length c = 0 := by unfold listsE; rw [if_neg (by simp [h4]), if_neg (by rw [h8]; simp), if_neg h9, if_neg (by rw [hall0]; simp), if_neg (by rw [h10]; simp), if_neg (by rw [hall1]; simp)]
        refine awp_exit ?_
        try simp only [go_sem, seval, cmdAV, bys]
        refine hK9 _ _ _ ?_
        first | clear hK9 K9 | skip
        refine awp_reg zs [4] fun K hK => ?_
        try simp only [go_sem, seval]
        refine hK _ _ _ ?_; clear hK K
        refine awp_ret ?_
        try simp only [go_sem, seval]
        refine ⟨_, rfl, fun k hk => ?_, Frz.eq (by rw [hd]) trivial⟩
        (repeat rw [if_neg (by omega)])
end Go.Proofs.YtifnhpmeoogedaaGreatDoor
namespace Go.Proofs.YtifnhpmeoogedaaGreatDoor
open Go Go.Sx Go.Rt Go.Proofs
theorem mod128 (x : Nat) : AV.int .u8 (IntKind.u8.wrap (IntKind.u64.wrap (128 + (x : Int).tmod 128))) = byteAV (UInt8.ofNat (x % 128 + 128)) := by
  have h1 : (x : Int).tmod 128 = ((x % 128 : Nat) : Int) := by rw [Int.tmod_eq_emod_of_nonneg (by omega)]; omega
  rw [h1, show (128 : Int) + ((x % 128 : Nat) : Int) = ((x % 128 + 128 : Nat) : Int) by omega, u64_wrap, u64_nat _ (by omega), byteI_wrap, byteI_nat]
theorem o_ref1_Uint (v : Nat) (hv : v < 18446744073709551616) (H : Heap) (n : Nat) : Ret Tryz.prog 134 [.int .u64 v] H n (.osl n (uintB v).length 0 (uintB v).length) (H.put n (some (.arr (uintB v).length 1 ((uintB v).map byteAV)))) (n + 1) := by
  have hlen := uintB_len10 hv
  refine acalls_of_awp Tryz.func134 rfl Tryz.ntmps134 (congrArg Array.toList Tryz.results134) (by simp) ?_
  simp only [go_sem]
  refine awp_reg zs [0] fun K hK => ?_
  try simp only [go_sem, seval]
  repeat (first | (refine And.intro ?_ ?_; · first | exact ⟨rfl, by simp [AV.sz, AV.memOK]⟩ | exact ⟨by omega, .inr trivial, by omega, by omega⟩) | refine peel ?_)
  refine hK _ _ _ ?_; clear hK K
  refine awp_reg zs [0, 3] fun K hK => ?_
  try simp only [go_sem, seval]
  repeat (first | (refine And.intro ?_ ?_; · first | exact ⟨rfl, by simp [AV.sz, AV.memOK]⟩ | exact ⟨by omega, .inr trivial, by omega, by omega⟩) | refine peel ?_)
  refine hK _ _ _ ?_; clear hK K
  refine awp_seq_k fun K1 hK1 => ?_
  refine awp_block ?_
  refine awp_adopt_tmp 3 1 rfl ?_
  refine awp_sel [0, 3] ?_
  simp only [go_sem, seval]
  refine awp_loop (fun T' H' n' => ∃ (b : List UInt8) (x : Nat), b ++ uintB x = uintB v ∧ x < 18446744073709551616 ∧ T' = tl [(0, .int .u64 x), (3, .osl n b.length 0 b.length)] ∧ H' = H.put n (some (.arr b.length 1 (b.map byteAV))) ∧ n' = n + 1) (fun T' _ _ => iv (T' 0)) ?_ ?_
  ·skip
   exact ⟨[], v, rfl, hv, rfl, rfl, rfl⟩
  intro T1 H1 n1
  rintro ⟨b, x, hbx, hx, rfl, rfl, rfl⟩
  refine awp_seq_k fun K2 hK2 => ?_
  refine awp_reg zs [0, 3, 5] fun K hK => ?_
  try simp only [go_sem, seval]
  repeat (first | (refine And.intro ?_ ?_; · first | exact ⟨rfl, by simp [AV.sz, AV.memOK]⟩ | exact ⟨by omega, .inr trivial, by omega, by omega⟩) | refine peel ?_)
  refine hK _ _ _ ?_; clear hK K
  refine awp_cnd (fun hb => ?_) (fun hb => ?_)
  ·skip
   have hge : 128 ≤ x := by have := of_decide_eq_true hb; omega
   rw [uintB_ge hge] at hbx
   have hbl : b.length ≤ 10 := by have := congrArg List.length hbx; simp at this; omega
   have hdv : (x : Int).tdiv 128 = ((x / 128 : Nat) : Int) := by rw [Int.tdiv_eq_ediv_of_nonneg (by omega)]; omega
   have hwr : IntKind.u64.wrap ((x / 128 : Nat) : Int) = ((x / 128 : Nat) : Int) := by rw [u64_wrap, u64_nat _ (by omega)]
   refine awp_skip ?_
   try simp only [go_sem, seval]
   refine hK2 _ _ _ ?_
   first | clear hK2 K2 | skip
   refine awp_block ?_
   refine awp_reg zs [0, 3] fun K hK => ?_
   try simp only [go_sem, seval, mod128, List.length_map]
   repeat (first | (refine And.intro ?_ ?_; · first | exact ⟨rfl, by simp [AV.sz, AV.memOK]⟩ | exact ⟨by omega, .inr trivial, by omega, by omega⟩) | refine peel ?_)
   refine hK _ _ _ ?_; clear hK K
   refine awp_reg1 zs [0, 3] fun K hK => ?_
   try simp only [go_sem, seval, hdv, hwr]
   repeat (first | (refine And.intro ?_ ?_; · first | exact ⟨rfl, by simp [AV.sz, AV.memOK]⟩ | exact ⟨by omega, .inr trivial, by omega, by omega⟩) | refine peel ?_)
   refine hK _ _ _ ?_; clear hK K
   try simp only [go_sem, seval]
   refine ⟨⟨b ++ [UInt8.ofNat (x % 128 + 128)], x / 128, by rw [List.append_assoc]; exact hbx, by omega, ?_, ?_⟩, by simp [iv]; omega⟩
   · rw [List.length_append]; rfl
   · rw [List.take_of_length_le (by simp), List.map_append, List.length_append]; rfl
  ·skip
   have hlt : x < 128 := by have := of_decide_eq_false hb; omega
   rw [uintB_lt hlt] at hbx
   have hbl : b.length ≤ 10 := by have := congrArg List.length hbx; simp at this; omega
   refine awp_exit ?_
   try simp only [go_sem, seval]
   refine hK1 _ _ _ ?_
   first | clear hK1 K1 | skip
   refine awp_reg zs [2] fun K hK => ?_
   try simp only [go_sem, seval, byteI_wrap, byteI_nat, List.length_map]
   repeat (first | (refine And.intro ?_ ?_; · first | exact ⟨rfl, by simp [AV.sz, AV.memOK]⟩ | exact ⟨by omega, .inr trivial, by omega, by omega⟩) | refine peel ?_)
   refine hK _ _ _ ?_; clear hK K
   refine awp_ret ?_
   try simp only [go_sem, seval]
   rw [← hbx, List.take_of_length_le (by simp), List.map_append, List.length_append]
   exact ⟨rfl, rfl⟩
theorem c_ref1_Uint (v : Nat) (hv : v < 18446744073709551616) (H : Heap) (n : Nat) : Ret Tryz.prog 134 [.int .u64 v] H n (bys (uintB v)) H n :=
  Ret.fin ((o_ref1_Uint v hv H n).mono fun res H1 n1 ⟨hr, hH, hn⟩ => ⟨_, hr, fun k hk => by rw [hH, Heap.put_ne _ _ (by omega)], by
    rw [hH]; exact .osl (Heap.put_same _ _ _) (Nat.le_refl _) (by simp) (by rw [List.drop_zero, List.take_of_length_le (by simp)]; exact frzL_kl _ (kls0_bytes _ n))⟩)
theorem o_ref1_Bytes (b : List UInt8) (hb : b.length ≤ 1099511627776) (H : Heap) (n : Nat) : Ret Tryz.prog 135 [bys b] H n (.osl n ((uintB b.length).length + 1) 0 (bytesB b).length) (H.put n (some (.arr ((uintB b.length).length + 1) 1 ((bytesB b).map byteAV)))) (n + 1) := by
  have hlen := uintB_len10 (v := b.length) (by omega)
  have hu : u64 (b.length : Int) = b.length := u64_nat _ (by omega)
  refine acalls_of_awp Tryz.func135 rfl Tryz.ntmps135 (congrArg Array.toList Tryz.results135) (by simp) ?_
  simp only [go_sem]
  refine awp_reg zs [0] fun K hK => ?_
  try simp only [go_sem, seval]
  repeat (first | (refine And.intro ?_ ?_; · first | exact ⟨by omega, trivial, by omega, by omega⟩ | exact ⟨by omega, .inr trivial, by omega, by omega⟩) | refine peel ?_)
  refine hK _ _ _ ?_; clear hK K
  refine awp_reg zs [2] fun K hK => ?_
  try simp only [go_sem, seval, List.length_map, u64_wrap, hu]
  repeat (first | (refine And.intro ?_ ?_; · first | exact ⟨by omega, trivial, by omega, by omega⟩ | exact ⟨by omega, .inr trivial, by omega, by omega⟩) | refine peel ?_)
  refine callK_use Tryz.func134 rfl rfl rfl ((o_ref1_Uint b.length (by omega) _ _)) ?_
  try simp only [go_sem, seval, List.length_map]
  repeat (first | (refine And.intro ?_ ?_; · first | exact ⟨by omega, trivial, by omega, by omega⟩ | exact ⟨by omega, .inr trivial, by omega, by omega⟩) | refine peel ?_)
  refine hK _ _ _ ?_; clear hK K
  refine awp_ret ?_
  try simp only [go_sem, seval]
  refine ⟨by simp [bytesB], ?_⟩
  funext k; simp only [Heap.put_get]
  by_cases hk : k = n
  · simp [hk, bytesB, List.take_of_length_le]
  · simp [hk]
theorem c_ref1_Bytes (b : List UInt8) (hb : b.length ≤ 1099511627776) (H : Heap) (n : Nat) : Ret Tryz.prog 135 [bys b] H n (bys (bytesB b)) H n :=
  Ret.fin ((o_ref1_Bytes b hb H n).mono fun res H1 n1 ⟨hr, hH, hn⟩ => ⟨_, hr, fun k hk => by rw [hH, Heap.put_ne _ _ (by omega)], by
    rw [hH]; exact .osl (Heap.put_same _ _ _) (Nat.le_refl _) (by simp) (by rw [List.drop_zero, List.take_of_length_le (by simp)]; exact frzL_kl _ (kls0_bytes _ n))⟩)
theorem c_ref14_add {kb ver : Nat} {bs : List UInt8} {H : Heap} {n : Nat} (hB : H kb = some (.arr ver 1 (bs.map byteAV))) (x : Int) (hM : bs.length + 10 ≤ 70368744177664) :
    Ret Tryz.prog 88 [.osl kb ver 0 bs.length, .int .i64 x] H n (.osl kb (ver + 1) 0 (bs ++ uintB (u64 x)).length) (H.put kb (some (.arr (ver + 1) 1 ((bs ++ uintB (u64 x)).map byteAV)))) n := by
  have hlen := uintB_len10 (u64_lt x)
  refine acalls_of_awp Tryz.func88 rfl Tryz.ntmps88 (congrArg Array.toList Tryz.results88) (by simp) ?_
  simp only [go_sem]
  refine awp_reg zs [0, 1] fun K hK => ?_
  try simp only [go_sem, seval]
  repeat (first | (refine And.intro ?_ ?_; · first | exact ⟨by omega, trivial, by omega, by omega⟩ | exact ⟨by omega, .inr trivial, by omega, by omega⟩) | refine peel ?_)
  refine hK _ _ _ ?_; clear hK K
  refine awp_reg zs [4] fun K hK => ?_
  try simp only [go_sem, seval, u64_wrap]
  repeat (first | (refine And.intro ?_ ?_; · first | exact ⟨by omega, trivial, by omega, by omega⟩ | exact ⟨by omega, .inr trivial, by omega, by omega⟩) | refine peel ?_)
  refine callK_use Tryz.func134 rfl rfl rfl ((c_ref1_Uint (u64 x) (u64_lt x) _ _)) ?_
  try simp only [go_sem, seval, List.length_map, hB]
  repeat (first | (refine And.intro ?_ ?_; · first | exact ⟨by omega, trivial, by omega, by omega⟩ | exact ⟨by omega, .inr trivial, by omega, by omega⟩) | refine peel ?_)
  refine hK _ _ _ ?_; clear hK K
  refine awp_ret ?_
  try simp only [go_sem, seval]
  rw [List.length_append, List.map_append, List.take_of_length_le (by simp)]
  exact ⟨rfl, rfl⟩
theorem c_ref14_put {kb ver : Nat} {bs : List UInt8} {H : Heap} {n : Nat} (hB : H kb = some (.arr ver 1 (bs.map byteAV))) (x : List UInt8) (hx : x.length ≤ 1099511627776) (hM : bs.length + 10 + x.length ≤ 70368744177664) :
    Ret Tryz.prog 90 [.osl kb ver 0 bs.length, bys x] H n (.osl kb (ver + 1) 0 (bs ++ bytesB x).length) (H.put kb (some (.arr (ver + 1) 1 ((bs ++ bytesB x).map byteAV)))) n := by
  have hlen := uintB_len10 (v := x.length) (by omega)
  have hl2 : (bytesB x).length = (uintB x.length).length + x.length := by simp [bytesB]
  refine acalls_of_awp Tryz.func90 rfl Tryz.ntmps90 (congrArg Array.toList Tryz.results90) (by simp) ?_
  simp only [go_sem]
  refine awp_reg zs [0, 1] fun K hK => ?_
  try simp only [go_sem, seval]
  repeat (first | (refine And.intro ?_ ?_; · first | exact ⟨by omega, trivial, by omega, by omega⟩ | exact ⟨by omega, .inr trivial, by omega, by omega⟩) | refine peel ?_)
  refine hK _ _ _ ?_; clear hK K
  refine awp_reg zs [4] fun K hK => ?_
  try simp only [go_sem, seval]
  repeat (first | (refine And.intro ?_ ?_; · first | exact ⟨by omega, trivial, by omega, by omega⟩ | exact ⟨by omega, .inr trivial, by omega, by omega⟩) | refine peel ?_)
  refine callK_use Tryz.func135 rfl rfl rfl ((c_ref1_Bytes x hx _ _)) ?_
  try simp only [go_sem, seval, List.length_map, hB]
  repeat (first | (refine And.intro ?_ ?_; · first | exact ⟨by omega, trivial, by omega, by omega⟩ | exact ⟨by omega, .inr trivial, by omega, by omega⟩) | refine peel ?_)
  refine hK _ _ _ ?_; clear hK K
  refine awp_ret ?_
  try simp only [go_sem, seval]
  rw [List.length_append, List.map_append, List.take_of_length_le (by simp)]
  exact ⟨rfl, rfl⟩
theorem c_ref14_flag {kb ver : Nat} {bs : List UInt8} {H : Heap} {n : Nat} (hB : H kb = some (.arr ver 1 (bs.map byteAV))) (x : Bool) (hM : bs.length + 10 ≤ 70368744177664) :
    Ret Tryz.prog 89 [.osl kb ver 0 bs.length, .bool x] H n (.osl kb (ver + 1) 0 (bs ++ flagB x).length) (H.put kb (some (.arr (ver + 1) 1 ((bs ++ flagB x).map byteAV)))) n := by
  refine acalls_of_awp Tryz.func89 rfl Tryz.ntmps89 (congrArg Array.toList Tryz.results89) (by simp) ?_
  simp only [go_sem]
  refine awp_reg zs [0, 1] fun K hK => ?_
  try simp only [go_sem, seval]
  repeat (first | (refine And.intro ?_ ?_; · first | exact ⟨rfl, by simp [AV.sz, AV.memOK]⟩ | exact ⟨by omega, trivial, by omega, by omega⟩ | exact ⟨by omega, .inr trivial, by omega, by omega⟩) | refine peel ?_)
  refine hK _ _ _ ?_; clear hK K
  refine awp_seq_k fun K1 hK1 => ?_
  refine awp_reg zs [0, 5] fun K hK => ?_
  try simp only [go_sem, seval]
  repeat (first | (refine And.intro ?_ ?_; · first | exact ⟨rfl, by simp [AV.sz, AV.memOK]⟩ | exact ⟨by omega, trivial, by omega, by omega⟩ | exact ⟨by omega, .inr trivial, by omega, by omega⟩) | refine peel ?_)
  refine hK _ _ _ ?_; clear hK K
  refine awp_cnd (fun hb => ?_) (fun hb => ?_)
  ·skip
   subst hb
   refine awp_reg zs [4] fun K hK => ?_
   try simp only [go_sem, seval, List.length_map, hB]
   repeat (first | (refine And.intro ?_ ?_; · first | exact ⟨rfl, by simp [AV.sz, AV.memOK]⟩ | exact ⟨by omega, trivial, by omega, by omega⟩ | exact ⟨by omega, .inr trivial, by omega, by omega⟩) | refine peel ?_)
   refine hK _ _ _ ?_; clear hK K
   refine awp_ret ?_
   try simp only [go_sem, seval]
   refine ⟨by simp [flagB], ?_⟩
   rw [List.map_append, List.take_of_length_le (by simp)]
   rfl
  ·skip
   subst hb
   refine awp_skip ?_
   try simp only [go_sem, seval]
   refine hK1 _ _ _ ?_
   first | clear hK1 K1 | skip
   refine awp_reg zs [4] fun K hK => ?_
   try simp only [go_sem, seval, List.length_map, hB]
   repeat (first | (refine And.intro ?_ ?_; · first | exact ⟨rfl, by simp [AV.sz, AV.memOK]⟩ | exact ⟨by omega, trivial, by omega, by omega⟩ | exact ⟨by omega, .inr trivial, by omega, by omega⟩) | refine peel ?_)
   refine hK _ _ _ ?_; clear hK K
   refine awp_ret ?_
   try simp only [go_sem, seval]
   refine ⟨by simp [flagB], ?_⟩
   rw [List.map_append, List.take_of_length_le (by simp)]
   rfl
theorem eight_u64 (x : Int) {j : Nat} (h : j < 8) : AV.int .u8 (IntKind.u8.wrap ((u64 x : Int).fdiv (2 ^ min ((u64 (56 - 8 * (j : Int)) : Nat) : Int).toNat 64))) = byteAV (byteI (x / 2 ^ (56 - 8 * j))) := by
  have hs : ((u64 (56 - 8 * (j : Int)) : Nat) : Int).toNat = 56 - 8 * j := by unfold u64; omega
  rw [hs, show min (56 - 8 * j) 64 = 56 - 8 * j by omega, fdiv_pow, byteI_wrap]
  have key : ((u64 x : Int) / 2 ^ (56 - 8 * j)) % 256 = (x / 2 ^ (56 - 8 * j)) % 256 := by
    unfold u64
    rcases j with _ | _ | _ | _ | _ | _ | _ | _ | j <;> first | omega | (simp only [Nat.reduceMul, Nat.reduceSub, Nat.reduceAdd, Nat.zero_add, Int.reducePow]; omega)
  unfold byteI
  rw [key]
theorem c_ref14_delta (x : Int) (H : Heap) (n : Nat) : Ret Tryz.prog 126 [.int .i64 x] H n (bys (eightB x)) H n := by
  refine Ret.fin ?_
  refine acalls_of_awp Tryz.func126 rfl Tryz.ntmps126 (congrArg Array.toList Tryz.results126) (by simp) ?_
  simp only [go_sem]
  refine awp_reg zs [0] fun K hK => ?_
  try simp only [go_sem, seval]
  repeat (first | (refine And.intro ?_ ?_; · first | exact ⟨rfl, by simp [AV.sz, AV.memOK]⟩ | exact ⟨by simp [eight_len]; omega, .inr trivial, by omega, by omega⟩) | refine peel ?_)
  refine hK _ _ _ ?_; clear hK K
  refine awp_reg zs [3] fun K hK => ?_
  try simp only [go_sem, seval, u64_wrap]
  repeat (first | (refine And.intro ?_ ?_; · first | exact ⟨rfl, by simp [AV.sz, AV.memOK]⟩ | exact ⟨by simp [eight_len]; omega, .inr trivial, by omega, by omega⟩) | refine peel ?_)
  refine hK _ _ _ ?_; clear hK K
  refine awp_reg zs [3, 4] fun K hK => ?_
  try simp only [go_sem, seval]
  repeat (first | (refine And.intro ?_ ?_; · first | exact ⟨rfl, by simp [AV.sz, AV.memOK]⟩ | exact ⟨by simp [eight_len]; omega, .inr trivial, by omega, by omega⟩) | refine peel ?_)
  refine hK _ _ _ ?_; clear hK K
  refine awp_seq_k fun K1 hK1 => ?_
  refine awp_reg zs [3, 4, 5] fun K hK => ?_
  try simp only [go_sem, seval]
  repeat (first | (refine And.intro ?_ ?_; · first | exact ⟨rfl, by simp [AV.sz, AV.memOK]⟩ | exact ⟨by simp [eight_len]; omega, .inr trivial, by omega, by omega⟩) | refine peel ?_)
  refine hK _ _ _ ?_; clear hK K
  refine awp_block ?_
  refine awp_adopt_tmp 4 1 rfl ?_
  refine awp_sel [3, 4, 5] ?_
  simp only [go_sem, seval]
  refine awp_loop (fun T' H' n' => ∃ j : Nat, j ≤ 8 ∧ T' = tl [(3, .int .u64 (u64 x)), (4, .osl n j 0 j), (5, .int .i64 (56 - 8 * j))] ∧ H' = H.put n (some (.arr j 1 (((eightB x).take j).map byteAV))) ∧ n' = n + 1) (fun T' _ _ => iv8 (T' 5)) ?_ ?_
  ·skip
   exact ⟨0, by omega, rfl, rfl, rfl⟩
  intro T1 H1 n1
  rintro ⟨j, hj, rfl, rfl, rfl⟩
  refine awp_seq_k fun K2 hK2 => ?_
  refine awp_reg zs [3, 4, 5, 9] fun K hK => ?_
  try simp only [go_sem, seval]
  repeat (first | (refine And.intro ?_ ?_; · first | exact ⟨rfl, by simp [AV.sz, AV.memOK]⟩ | exact ⟨by simp [eight_len]; omega, .inr trivial, by omega, by omega⟩) | refine peel ?_)
  refine hK _ _ _ ?_; clear hK K
  refine awp_cnd (fun hb => ?_) (fun hb => ?_)
  ·skip
   have hlt : j < 8 := by have := of_decide_eq_true hb; omega
   have he := eight_u64 x hlt
   have e2 : IntKind.i64.wrap (56 - 8 * (j : Int) - 8) = 56 - 8 * ((j + 1 : Nat) : Int) := by rw [w64 (by omega) (by omega)]; omega
   refine awp_skip ?_
   try simp only [go_sem, seval]
   refine hK2 _ _ _ ?_
   first | clear hK2 K2 | skip
   refine awp_seq_k fun K3 hK3 => ?_
   refine awp_block ?_
   refine awp_reg1 zs [3, 4, 5] fun K hK => ?_
   try simp only [go_sem, seval, List.length_map, u64_wrap, he]
   repeat (first | (refine And.intro ?_ ?_; · first | exact ⟨rfl, by simp [AV.sz, AV.memOK]⟩ | exact ⟨by simp [eight_len]; omega, .inr trivial, by omega, by omega⟩) | refine peel ?_)
   refine hK _ _ _ ?_; clear hK K
   try simp only [go_sem, seval]
   refine hK3 _ _ _ ?_
   first | clear hK3 K3 | skip
   refine awp_reg1 zs [3, 4, 5] fun K hK => ?_
   try simp only [go_sem, seval, e2]
   repeat (first | (refine And.intro ?_ ?_; · first | exact ⟨rfl, by simp [AV.sz, AV.memOK]⟩ | exact ⟨by simp [eight_len]; omega, .inr trivial, by omega, by omega⟩) | refine peel ?_)
   refine hK _ _ _ ?_; clear hK K
   try simp only [go_sem, seval]
   refine ⟨⟨j + 1, by omega, rfl, ?_⟩, ?_⟩
   · rw [List.take_of_length_le (by simp; omega), ← eight_take x hlt, List.map_append]; rfl
   · show (56 - 8 * ((j + 1 : Nat) : Int) + 8).toNat < (56 - 8 * (j : Int) + 8).toNat
     omega
  ·skip
   have hge : j = 8 := by have := of_decide_eq_false hb; omega
   refine awp_exit ?_
   try simp only [go_sem, seval]
   refine hK1 _ _ _ ?_
   first | clear hK1 K1 | skip
   refine awp_reg zs [2] fun K hK => ?_
   try simp only [go_sem, seval]
   repeat (first | (refine And.intro ?_ ?_; · first | exact ⟨rfl, by simp [AV.sz, AV.memOK]⟩ | exact ⟨by simp [eight_len]; omega, .inr trivial, by omega, by omega⟩) | refine peel ?_)
   refine hK _ _ _ ?_; clear hK K
   refine awp_ret ?_
   try simp only [go_sem, seval]
   subst hge
   refine ⟨_, rfl, fun k hk => by rw [if_neg (by omega)], .osl (Heap.put_same _ _ _) (Nat.le_refl _) (by simp [eight_len]) ?_⟩
   rw [List.take_of_length_le (by simp [eight_len]), List.drop_zero, List.take_of_length_le (by simp [eight_len])]
   exact frzL_kl _ (kls0_bytes _ n)
end Go.Proofs.YtifnhpmeoogedaaGreatDoor
namespace Go.Proofs.YtifnhpmeoogedaaGreatDoor
open Go Go.Sx Go.Rt Go.Proofs
theorem c_law14_same (a b : List UInt8) (ha : a.length ≤ 1099511627776) (H : Heap) (n : Nat) : Ret Tryz.prog 19 [bys a, bys b] H n (.bool (decide (a = b))) H n := by
  refine acalls_of_awp Tryz.func19 rfl Tryz.ntmps19 (congrArg Array.toList Tryz.results19) (by simp) ?_
  simp only [go_sem]
  refine awp_reg zs [0, 1] fun K hK => ?_
  try simp only [go_sem, seval]
  refine hK _ _ _ ?_; clear hK K
  refine awp_seq_k fun K1 hK1 => ?_
  refine awp_reg zs [0, 1, 10] fun K hK => ?_
  try simp only [go_sem, seval, List.length_map]
  refine hK _ _ _ ?_; clear hK K
  refine awp_cnd (fun hb => ?_) (fun hb => ?_)
  ·skip
   have hne : ¬ a = b := fun e => by rw [e] at hb; simp at hb
   refine awp_reg zs [4] fun K hK => ?_
   try simp only [go_sem, seval]
   refine hK _ _ _ ?_; clear hK K
   refine awp_ret ?_
   try simp only [go_sem, seval]
   first | simp [heq] | simp [hne]
  ·skip
   have hl : a.length = b.length := by simp at hb; omega
   refine awp_skip ?_
   try simp only [go_sem, seval]
   refine hK1 _ _ _ ?_
   first | clear hK1 K1 | skip
   refine awp_seq_k fun K2 hK2 => ?_
   refine awp_reg zs [0, 1, 5] fun K hK => ?_
   try simp only [go_sem, seval]
   refine hK _ _ _ ?_; clear hK K
   refine awp_block ?_
   refine awp_loop (fun T' H' n' => ∃ i : Nat, i ≤ a.length ∧ T' = tl [(0, bys a), (1, bys b), (5, .int .i64 i)] ∧ H' = H ∧ n' = n ∧ (a.drop i = b.drop i ↔ a = b)) (fun T' _ _ => a.length - iv (T' 5)) ?_ ?_
   ·skip
    exact ⟨0, Nat.zero_le _, rfl, rfl, rfl, by simp⟩
   intro T1 H1 n1
   rintro ⟨i, hi, rfl, rfl, rfl, hix⟩
   refine awp_seq_k fun K3 hK3 => ?_
   refine awp_reg zs [0, 1, 5, 14] fun K hK => ?_
   try simp only [go_sem, seval, List.length_map]
   refine hK _ _ _ ?_; clear hK K
   refine awp_cnd (fun hb => ?_) (fun hb => ?_)
   ·skip
    have hlt : i < a.length := by have := of_decide_eq_true hb; omega
    have hlt2 : i < b.length := by omega
    rw [drop_cons a i hlt, drop_cons b i hlt2, List.cons.injEq] at hix
    have hn1 : nth (a.map byteAV) i = byteAV (a.getD i default) := nth_map byteAV a i hlt
    have hn2 : nth (b.map byteAV) i = byteAV (b.getD i default) := nth_map byteAV b i hlt2
    refine awp_skip ?_
    try simp only [go_sem, seval]
    refine hK3 _ _ _ ?_
    first | clear hK3 K3 | skip
    refine awp_seq_k fun K4 hK4 => ?_
    refine awp_block ?_
    refine awp_drw rfl zs [0, 1, 5, 25] [.m, .m, .q, .q, .m, .m, .q, .q, .q] (by kernel_rfl) (fun _ _ _ _ _ h => h) fun K hK => ?_
    try simp only [go_sem, seval, List.length_map, Int.toNat_natCast, hn1, hn2, byteAV]
    repeat refine peel ?_
    refine hK _ _ _ ?_; clear hK K
    refine awp_cnd (fun hb => ?_) (fun hb => ?_)
    ·skip
     have hne : ¬ a = b := fun e => by subst e; simp at hb
     refine awp_reg zs [4] fun K hK => ?_
     try simp only [go_sem, seval]
     refine hK _ _ _ ?_; clear hK K
     refine awp_ret ?_
     try simp only [go_sem, seval]
     first | simp [heq] | simp [hne]
    ·skip
     have hx : a.getD i default = b.getD i default := by apply UInt8.toNat_inj.1; have h9 := hb; simp only [bne_eq_false_iff_eq] at h9; omega
     have hnext : (a.drop (i + 1) = b.drop (i + 1)) ↔ a = b := by rw [← hix]; simp only [hx, true_and]
     refine awp_skip ?_
     try simp only [go_sem, seval]
     refine hK4 _ _ _ ?_
     first | clear hK4 K4 | skip
     refine awp_reg1 zs [0, 1, 5] fun K hK => ?_
     try simp only [go_sem, seval]
     refine hK _ _ _ ?_; clear hK K
     try simp only [go_sem, seval]
     exact ⟨⟨i + 1, by omega, by rw [w1 (by omega)], hnext⟩, by rw [w1 (by omega)]; simp; omega⟩
   ·skip
    have hge : i = a.length := by have := of_decide_eq_false hb; omega
    have heq : a = b := by rw [← hix, hge, List.drop_length, hl, List.drop_length]
    refine awp_exit ?_
    try simp only [go_sem, seval]
    refine hK2 _ _ _ ?_
    first | clear hK2 K2 | skip
    refine awp_reg zs [4] fun K hK => ?_
    try simp only [go_sem, seval]
    refine hK _ _ _ ?_; clear hK K
    refine awp_ret ?_
    try simp only [go_sem, seval]
    first | simp [heq] | simp [hne]
theorem c_law14_one (H : Heap) (n : Nat) : Ret Tryz.prog 41 [] H n (schAV [⟨[102], 1, 0⟩]) H n := by
  refine Ret.fin ?_
  refine acalls_of_awp Tryz.func41 rfl Tryz.ntmps41 (congrArg Array.toList Tryz.results41) (by simp) ?_
  simp only [go_sem]
  refine awp_rq zs [0] ?_
  refine awp_rq zs [0] ?_
  refine awp_ret ?_
  try simp only [go_sem, seval]
  exact ⟨_, rfl, fun k hk => by rw [if_neg (by omega)], .kl ⟨⟨⟨trivial, trivial, trivial, trivial⟩, trivial⟩, trivial⟩⟩
end Go.Proofs.YtifnhpmeoogedaaGreatDoor
namespace Go.Rt
open Go Go.Sx
structure LS (H0 : Heap) (n0 : Nat) (B : List (Nat × AObj)) (kb ver M : Nat) (bs : List UInt8) (H' : Heap) (n' : Nat) : Prop where
  buf : H' kb = some (.arr ver 1 (bs.map byteAV))
  keep : ∀ p ∈ B, H' p.1 = some p.2 ∧ p.1 ≠ kb ∧ p.1 < n'
  low : ∀ k, k < n0 → H' k = H0 k
  gb : n0 ≤ kb
  lb : kb < n'
  len : bs.length ≤ M
section
variable {H0 : Heap} {n0 : Nat} {B : List (Nat × AObj)} {kb ver M : Nat} {bs : List UInt8} {H1 : Heap} {n1 : Nat}
theorem LS.put (h : LS H0 n0 B kb ver M bs H1 n1) {ver' M' : Nat} {bs' : List UInt8} (hl : bs'.length ≤ M') : LS H0 n0 B kb ver' M' bs' (H1.put kb (some (.arr ver' 1 (bs'.map byteAV)))) n1 where
  buf := Heap.put_same _ _ _
  keep := fun p hp => by
    obtain ⟨h1, h2, h3⟩ := h.keep p hp
    exact ⟨(Heap.put_ne _ _ h2).trans h1, h2, h3⟩
  low := fun k hk => (Heap.put_ne _ _ (by have := h.gb; omega)).trans (h.low k hk)
  gb := h.gb
  lb := h.lb
  len := hl
theorem LS.on {H2 : Heap} {n2 : Nat} (h : LS H0 n0 B kb ver M bs H1 n1) (hl : ∀ k, k < n1 → H2 k = H1 k) (hn : n1 ≤ n2) : LS H0 n0 B kb ver M bs H2 n2 where
  buf := (hl _ h.lb).trans h.buf
  keep := fun p hp => by
    obtain ⟨h1, h2, h3⟩ := h.keep p hp
    exact ⟨(hl _ h3).trans h1, h2, Nat.lt_of_lt_of_le h3 hn⟩
  low := fun k hk => (hl k (by have := h.lb; have := h.gb; omega)).trans (h.low k hk)
  gb := h.gb
  lb := Nat.lt_of_lt_of_le h.lb hn
  len := h.len
theorem LS.add (h : LS H0 n0 B kb ver M bs H1 n1) {k : Nat} {o : AObj} (hk : H1 k = some o) (h2 : k ≠ kb) (h3 : k < n1) : LS H0 n0 ((k, o) :: B) kb ver M bs H1 n1 :=
  ⟨h.buf, fun p hp => by
      rcases List.mem_cons.1 hp with rfl | hp
      · exact ⟨hk, h2, h3⟩
      · exact h.keep p hp, h.low, h.gb, h.lb, h.len⟩
theorem LS.lu (h : LS H0 n0 B kb ver M bs H1 n1) (x : Int) : (bs ++ uintB (u64 x)).length ≤ M + 10 := by
  have h1 := h.len; have h2 := uintB_len10 (u64_lt x)
  rw [List.length_append]; omega
theorem LS.lby (h : LS H0 n0 B kb ver M bs H1 n1) (x : List UInt8) (hx : x.length ≤ 1099511627776) : (bs ++ bytesB x).length ≤ M + 10 + x.length := by
  have h1 := h.len; have h2 := uintB_len10 (v := x.length) (by omega)
  rw [List.length_append]; simp only [bytesB, List.length_append]; omega
theorem LS.l1 (h : LS H0 n0 B kb ver M bs H1 n1) (x : List UInt8) : (bs ++ x).length ≤ M + x.length := by
  have h1 := h.len
  rw [List.length_append]; omega
theorem LS.drop {p : Nat × AObj} (h : LS H0 n0 (p :: B) kb ver M bs H1 n1) : LS H0 n0 B kb ver M bs H1 n1 := { h with keep := fun q hq => h.keep q (List.mem_cons_of_mem _ hq) }
theorem LS.get (h : LS H0 n0 B kb ver M bs H1 n1) (k : Nat) (o : AObj) (hm : (k, o) ∈ B) : H1 k = some o := (h.keep (k, o) hm).1
theorem LS.up {M' : Nat} (h : LS H0 n0 B kb ver M bs H1 n1) (hM : M ≤ M') : LS H0 n0 B kb ver M' bs H1 n1 := { h with len := Nat.le_trans h.len hM }
theorem LS.newObj (h : LS H0 n0 B kb ver M bs H1 n1) (o : AObj) : LS H0 n0 ((n1, o) :: B) kb ver M bs (H1.put n1 (some o)) (n1 + 1) :=
  (h.on (fun k hk => Heap.put_ne _ _ (by omega)) (by omega)).add (Heap.put_same _ _ _) (by have := h.lb; omega) (by omega)
end
theorem awp_genT {P : Program} {N : Nat} {code : Code} {T : Nat → AV} {H : Heap} {n : Nat} {Q : AEx → (Nat → AV) → Heap → Nat → Prop} (Φ : (Nat → AV) → Heap → Nat → Prop) (h0 : Φ T H n) (h : ∀ T H n, Φ T H n → awp P N code T H n Q) : awp P N code T H n Q := h T H n h0
end Go.Rt