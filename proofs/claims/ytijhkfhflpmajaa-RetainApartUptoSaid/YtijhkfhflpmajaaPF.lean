/- Own layer: walks through the checks of schemas and arguments. Of the program; no condition. -/
import Derived.Test.YtijhkfhflpmajaaPE
set_option linter.unusedSimpArgs false
set_option linter.unusedVariables false
namespace Go.Proofs.Ytijhkfhflpmajaa
open Go Go.Sx Go.Rt Go.Proofs
theorem c_cell_CheckSchema (s : List Fml) (H : Heap) (n : Nat) : Ret Try.prog 73 [schAV s] H n (.int .i64 (schemaE s)) H n := by
  refine Ret.fin ?_
  refine acalls_of_awp Try.func73 rfl Try.ntmps73 (congrArg Array.toList Try.results73) (by simp) ?_
  simp only [go_sem]
  refine awp_rq zs [1] ?_
  refine awp_seq_k fun K1 hK1 => ?_
  refine awp_reg zs [1, 8] fun K hK => ?_
  try simp only [go_sem, seval]
  repeat refine peel ?_
  refine callK_use Try.func65 rfl rfl rfl ((by apply c_cell_outside <;> first | assumption | omega)) ?_
  try simp only [go_sem, seval]
  repeat refine peel ?_
  refine hK _ _ _ ?_; clear hK K
  refine awp_cnd (fun hb => ?_) (fun hb => ?_)
  ·skip
   have hres : (28 : Int) = schemaE s := by
     have : bout s.length 1 8 = true := by simpa using hb
     simp [schemaE, this]
   refine awp_rq zs [2] ?_
   refine awp_ret ?_
   try simp only [go_sem, seval]
   refine ⟨_, rfl, ?_, Frz.eq (by rw [hres]) trivial⟩
   intro k hk; have h0 : k ≠ n := by omega
   first | (simp [Heap.put, h0]; done) | exact hH k hk | (have h1 : k ≠ n1 := (by omega); simp [Heap.put, h0, h1, hH k hk])
  ·skip
   have hb8 : bout s.length 1 8 = false := by simpa using hb
   have hlen := bout_false hb8
   refine awp_skip ?_
   try simp only [go_sem, seval]
   refine hK1 _ _ _ ?_
   first | clear hK1 K1 | skip
   refine awp_seq_k fun K2 hK2 => ?_
   refine awp_rq zs [1, 10, 11, 12] ?_
   refine awp_block ?_
   refine awp_loop (fun T' H' n' => ∃ i : Nat, i ≤ s.length ∧ T' = tl [(1, .loc n 0 0 0 []), (10, .sl 3 (s.map famAV)), (11, .int .i64 s.length), (12, .int .i64 i)] ∧ n + 1 ≤ n' ∧ H' n = some (.arr 0 1 [schAV s]) ∧ (∀ k, k < n → H' k = H k) ∧ famsBad s (s.drop i) i = famsBad s s 0) (fun T' _ _ => s.length - iv (T' 12)) ?_ ?_
   ·skip
    refine ⟨0, Nat.zero_le _, by rw [List.length_map]; rfl, by omega, ?_, ?_, rfl⟩
    · simp [Heap.put, schAV]
    · intro k hk; have h0 : k ≠ n := by omega
      simp [Heap.put, h0]
   intro T1 H1 n1
   rintro ⟨i, hi, rfl, hn, hHn, hH, hix⟩
   refine awp_rq zs [1, 10, 11, 12, 13] ?_
   refine awp_seq_k fun K3 hK3 => ?_
   refine awp_cnd (fun hb => ?_) (fun hb => ?_)
   ·skip
    have hlt : i < s.length := by simpa using hb
    rw [drop_cons s i hlt, famsBad_cons] at hix
    have hn1 : (n = n1) = False := by simp; omega
    simp only [schAV] at hHn
    refine awp_skip ?_
    try simp only [go_sem, seval]
    refine hK3 _ _ _ ?_
    first | clear hK3 K3 | skip
    refine awp_seq_k fun K4 hK4 => ?_
    refine awp_block ?_
    have hnth : nth (s.map famAV) i = famAV (s.getD i default) := nth_map famAV s i hlt
    refine awp_reg zs [1, 3, 4, 10, 11, 12] fun K hK => ?_
    try simp only [go_sem, seval, Int.toNat_natCast, hnth]
    repeat refine peel ?_
    refine hK _ _ _ ?_; clear hK K
    refine awp_reg zs [1, 10, 11, 12, 38] fun K hK => ?_
    try simp only [go_sem, seval, Int.toNat_natCast, hn1, hHn]
    repeat refine peel ?_
    refine callK_use Try.func84 rfl rfl rfl ((c_cell_named (s.getD i default).name _ _)) ?_
    try simp only [go_sem, seval, Int.toNat_natCast, hn1, hHn]
    repeat refine peel ?_
    refine callG_use Try.func85 rfl rfl rfl (fun _ => (c_cell_Family s (s.getD i default).name (by omega) _ _)) ?_
    try simp only [go_sem, seval, Int.toNat_natCast, hn1, hHn]
    repeat refine peel ?_
    refine callG_use Try.func65 rfl rfl rfl (fun _ => (c_cell_outside (s.getD i default).max 1 16 _ _)) ?_
    try simp only [go_sem, seval, Int.toNat_natCast, hn1, hHn]
    repeat refine peel ?_
    refine callG_use Try.func65 rfl rfl rfl (fun _ => (c_cell_outside (s.getD i default).ttl 0 1099511627776 _ _)) ?_
    try simp only [go_sem, seval, Int.toNat_natCast, hn1, hHn]
    repeat refine peel ?_
    refine hK _ _ _ ?_; clear hK K
    refine awp_cnd (fun hb => ?_) (fun hb => ?_)
    ·skip
     have hbad : famBad s (s.getD i default) i = true := by
       simp only [famBad]; cases h1 : namedB (s.getD i default).name <;> cases h2 : bout (s.getD i default).max 1 16 <;> simp_all
     have hres : (28 : Int) = schemaE s := by rw [hbad] at hix; simp [schemaE, hb8, ← hix]
     refine awp_rq zs [2] ?_
     refine awp_ret ?_
     try simp only [go_sem, seval]
     refine ⟨_, rfl, ?_, Frz.eq (by rw [hres]) trivial⟩
     intro k hk; have h0 : k ≠ n := by omega
     first | (simp [Heap.put, h0]; done) | exact hH k hk | (have h1 : k ≠ n1 := (by omega); simp [Heap.put, h0, h1, hH k hk])
    ·skip
     have hbad : famBad s (s.getD i default) i = false := by
       simp only [famBad]; cases h1 : namedB (s.getD i default).name <;> cases h2 : bout (s.getD i default).max 1 16 <;> simp_all
     rw [hbad, Bool.false_or] at hix
     refine awp_skip ?_
     try simp only [go_sem, seval]
     refine hK4 _ _ _ ?_
     first | clear hK4 K4 | skip
     refine awp_reg1 zs [1, 10, 11, 12] fun K hK => ?_
     try simp only [go_sem, seval]
     repeat refine peel ?_
     refine hK _ _ _ ?_; clear hK K
     try simp only [go_sem, seval]
     refine ⟨⟨i + 1, by omega, by rw [w1 (by omega)], by omega, ?_, ?_, hix⟩, by rw [w1 (by omega)]; simp; omega⟩
     · simp [hn1, hHn, schAV]
     · intro k hk; have h0 : k ≠ n1 := by omega
       simp [h0, hH k hk]
   ·skip
    have hge : i = s.length := by simp at hb; omega
    have hres : (0 : Int) = schemaE s := by rw [hge] at hix; simp [famsBad] at hix; simp [schemaE, hb8, hix]
    refine awp_exit ?_
    try simp only [go_sem, seval]
    refine hK2 _ _ _ ?_
    first | clear hK2 K2 | skip
    refine awp_rq zs [2] ?_
    refine awp_ret ?_
    try simp only [go_sem, seval]
    refine ⟨_, rfl, ?_, Frz.eq (by rw [hres]) trivial⟩
    intro k hk; have h0 : k ≠ n := by omega
    first | (simp [Heap.put, h0]; done) | exact hH k hk | (have h1 : k ≠ n1 := (by omega); simp [Heap.put, h0, h1, hH k hk])
theorem c_retain_bounds (s : List Fml) (clock : Int) (times : List Int) (kk : Int) (hl : times.length ≤ 1048576) (H : Heap) (n : Nat) : Ret Try.prog 49 [schAV s, .int .i64 clock, intsAV times, .int .i64 kk] H n (.int .i64 (boundsE s clock times kk)) H n := by
  refine Ret.fin ?_
  refine acalls_of_awp Try.func49 rfl Try.ntmps49 (congrArg Array.toList Try.results49) (by simp) ?_
  simp only [go_sem]
  refine awp_rq zs [1, 2, 3, 4] ?_
  refine awp_seq_k fun K1 hK1 => ?_
  refine awp_reg zs [1, 2, 3, 9] fun K hK => ?_
  try simp only [go_sem, ↓reduceIte, Nat.reduceEqDiff, Nat.reduceLT, Nat.reduceSub, Nat.reduceAdd, Nat.reduceMul]
  repeat refine peel ?_
  refine callK_use Try.func73 rfl rfl rfl ((c_cell_CheckSchema s _ _)) ?_
  try simp only [go_sem, ↓reduceIte, Nat.reduceEqDiff, Nat.reduceLT, Nat.reduceSub, Nat.reduceAdd, Nat.reduceMul]
  repeat refine peel ?_
  refine hK _ _ _ ?_; clear hK K
  refine awp_rq zs [1, 2, 3, 9, 15] ?_
  refine awp_cnd (fun hb => ?_) (fun hb => ?_)
  ·skip
   have hs : schemaE s ≠ 0 := by simpa using hb
   have hres : schemaE s = boundsE s clock times kk := by simp [boundsE, hs]
   refine awp_rq zs [8] ?_
   refine awp_ret ?_
   try simp only [go_sem, ↓reduceIte, Nat.reduceEqDiff, Nat.reduceLT, Nat.reduceSub, Nat.reduceAdd, Nat.reduceMul]
   refine ⟨_, rfl, ?_, Frz.eq (by rw [hres]) trivial⟩
   intro k hk; have h0 : k ≠ n := by omega
   first | (simp [Heap.put, h0]; done) | exact hH k hk
  ·skip
   have hs : schemaE s = 0 := by simpa using hb
   refine awp_skip ?_
   try simp only [go_sem, ↓reduceIte, Nat.reduceEqDiff, Nat.reduceLT, Nat.reduceSub, Nat.reduceAdd, Nat.reduceMul]
   refine hK1 _ _ _ ?_
   first | clear hK1 K1 | skip
   refine awp_seq_k fun K2 hK2 => ?_
   refine awp_reg zo [3, 20, 21, 22] fun K hK => ?_
   try simp only [go_sem, ↓reduceIte, Nat.reduceEqDiff, Nat.reduceLT, Nat.reduceSub, Nat.reduceAdd, Nat.reduceMul]
   repeat (first | (refine And.intro ?_ ?_; · first | exact ⟨rfl, by decide, by simp [AV.sz, AV.memOK]⟩ | exact ⟨by omega, .inr trivial, by simp; omega, by simp; omega⟩) | refine peel ?_)
   refine hK _ _ _ ?_; clear hK K
   refine awp_block ?_
   refine awp_loop (fun T' H' n' => ∃ i : Nat, i ≤ times.length + 1 ∧ T' = tl [(3, .int .i64 kk), (20, .osl (n + 1) 1 0 (1 + times.length)), (21, .int .i64 (1 + times.length : Nat)), (22, .int .i64 i)] ∧ n + 2 ≤ n' ∧ H' (n + 1) = some (.arr 1 1 ((clock :: times).map fun x => .int .i64 x)) ∧ (∀ k, k < n → H' k = H k) ∧ timesBad ((clock :: times).drop i) = timesBad (clock :: times)) (fun T' _ _ => times.length + 1 - iv (T' 22)) ?_ ?_
   ·skip
    refine ⟨0, by omega, by rw [List.length_map]; rfl, by omega, ?_, ?_, rfl⟩
    · simp [Heap.put]
    · intro k hk; have h0 : k ≠ n := by omega
      have h1 : ∀ j, k ≠ n + j := fun j => by omega
      simp [Heap.put, h0, h1]
   intro T1 H1 n1
   rintro ⟨i, hi, rfl, hn, hHn, hH, hix⟩
   refine awp_rq zs [3, 20, 21, 22, 23] ?_
   refine awp_seq_k fun K3 hK3 => ?_
   refine awp_cnd (fun hb => ?_) (fun hb => ?_)
   ·skip
    have hlt : i < (clock :: times).length := by simp at hb ⊢; omega
    rw [drop_cons _ i hlt, timesBad, List.any_cons] at hix
    refine awp_skip ?_
    try simp only [go_sem, ↓reduceIte, Nat.reduceEqDiff, Nat.reduceLT, Nat.reduceSub, Nat.reduceAdd, Nat.reduceMul]
    refine hK3 _ _ _ ?_
    first | clear hK3 K3 | skip
    refine awp_seq_k fun K4 hK4 => ?_
    refine awp_block ?_
    have hnth : nth (AV.int .i64 clock :: times.map fun x => AV.int .i64 x) i = .int .i64 ((clock :: times).getD i default) := nth_map (fun x => AV.int .i64 x) _ i hlt
    simp only [List.map_cons] at hHn
    refine awp_reg zs [3, 11, 20, 21, 22] fun K hK => ?_
    try simp only [go_sem, ↓reduceIte, Nat.reduceEqDiff, Nat.reduceLT, Nat.reduceSub, Nat.reduceAdd, Nat.reduceMul, Int.toNat_natCast, hHn, hnth]
    repeat (first | (refine And.intro ?_ ?_; · first | (simp at hlt ⊢; omega) | exact ⟨by simp at hlt ⊢; omega, rfl, rfl⟩) | refine peel ?_)
    refine hK _ _ _ ?_; clear hK K
    refine awp_reg zs [3, 20, 21, 22, 27] fun K hK => ?_
    try simp only [go_sem, ↓reduceIte, Nat.reduceEqDiff, Nat.reduceLT, Nat.reduceSub, Nat.reduceAdd, Nat.reduceMul]
    repeat refine peel ?_
    refine callK_use Try.func74 rfl rfl rfl ((by apply c_retain_outside <;> first | assumption | omega)) ?_
    try simp only [go_sem, ↓reduceIte, Nat.reduceEqDiff, Nat.reduceLT, Nat.reduceSub, Nat.reduceAdd, Nat.reduceMul]
    repeat refine peel ?_
    refine hK _ _ _ ?_; clear hK K
    refine awp_cnd (fun hb => ?_) (fun hb => ?_)
    ·skip
     have hbad : bout ((clock :: times).getD i default) 0 1099511627776 = true := hb
     have hres : (32 : Int) = boundsE s clock times kk := by rw [hbad] at hix; simp only [Bool.true_or] at hix; simp [boundsE, hs, ← hix]
     refine awp_rq zs [8] ?_
     refine awp_ret ?_
     try simp only [go_sem, ↓reduceIte, Nat.reduceEqDiff, Nat.reduceLT, Nat.reduceSub, Nat.reduceAdd, Nat.reduceMul]
     refine ⟨_, rfl, ?_, Frz.eq (by rw [hres]) trivial⟩
     intro k hk; have h0 : k ≠ n := by omega
     first | (simp [Heap.put, h0]; done) | exact hH k hk
    ·skip
     have hbad : bout ((clock :: times).getD i default) 0 1099511627776 = false := hb
     rw [hbad, Bool.false_or] at hix
     refine awp_skip ?_
     try simp only [go_sem, ↓reduceIte, Nat.reduceEqDiff, Nat.reduceLT, Nat.reduceSub, Nat.reduceAdd, Nat.reduceMul]
     refine hK4 _ _ _ ?_
     first | clear hK4 K4 | skip
     refine awp_reg1 zs [3, 20, 21, 22] fun K hK => ?_
     try simp only [go_sem, ↓reduceIte, Nat.reduceEqDiff, Nat.reduceLT, Nat.reduceSub, Nat.reduceAdd, Nat.reduceMul]
     repeat refine peel ?_
     refine hK _ _ _ ?_; clear hK K
     try simp only [go_sem, ↓reduceIte, Nat.reduceEqDiff, Nat.reduceLT, Nat.reduceSub, Nat.reduceAdd, Nat.reduceMul]
     refine ⟨⟨i + 1, by simp at hlt; omega, by rw [w1 (by simp at hlt; omega)], hn, hHn, hH, hix⟩, by rw [w1 (by simp at hlt; omega)]; simp at hlt ⊢; omega⟩
   ·skip
    have hge : i = (clock :: times).length := by simp at hb ⊢; omega
    have hok : timesBad (clock :: times) = false := by rw [← hix, hge]; simp [timesBad]
    refine awp_exit ?_
    try simp only [go_sem, ↓reduceIte, Nat.reduceEqDiff, Nat.reduceLT, Nat.reduceSub, Nat.reduceAdd, Nat.reduceMul]
    refine hK2 _ _ _ ?_
    first | clear hK2 K2 | skip
    refine awp_seq_k fun K5 hK5 => ?_
    refine awp_rq zs [34] ?_
    refine awp_cnd (fun hb => ?_) (fun hb => ?_)
    ·skip
     have hbad : bout kk 1 16 = true := by unfold bout; cases h1 : decide (kk < 1) <;> simp_all
     have hres : (32 : Int) = boundsE s clock times kk := by simp [boundsE, hs, hok, hbad]
     refine awp_rq zs [8] ?_
     refine awp_ret ?_
     try simp only [go_sem, ↓reduceIte, Nat.reduceEqDiff, Nat.reduceLT, Nat.reduceSub, Nat.reduceAdd, Nat.reduceMul]
     refine ⟨_, rfl, ?_, Frz.eq (by rw [hres]) trivial⟩
     intro k hk; have h0 : k ≠ n := by omega
     first | (simp [Heap.put, h0]; done) | exact hH k hk
    ·skip
     have hbad : bout kk 1 16 = false := by unfold bout; cases h1 : decide (kk < 1) <;> simp_all
     have hres : (0 : Int) = boundsE s clock times kk := by simp [boundsE, hs, hok, hbad]
     refine awp_skip ?_
     try simp only [go_sem, ↓reduceIte, Nat.reduceEqDiff, Nat.reduceLT, Nat.reduceSub, Nat.reduceAdd, Nat.reduceMul]
     refine hK5 _ _ _ ?_
     first | clear hK5 K5 | skip
     refine awp_rq zs [8] ?_
     refine awp_ret ?_
     try simp only [go_sem, ↓reduceIte, Nat.reduceEqDiff, Nat.reduceLT, Nat.reduceSub, Nat.reduceAdd, Nat.reduceMul]
     refine ⟨_, rfl, ?_, Frz.eq (by rw [hres]) trivial⟩
     intro k hk; have h0 : k ≠ n := by omega
     first | (simp [Heap.put, h0]; done) | exact hH k hk
end Go.Proofs.Ytijhkfhflpmajaa
namespace Go.Proofs.Ytijhkfhflpmajaa
open Go Go.Sx Go.Rt Go.Proofs
theorem c_retain_decided_out (d : Dec) (H : Heap) (n : Nat) : Ret Try.prog 79 [decAV d] H n (.bool (outD d)) H n := by
  refine Ret.fin ?_
  refine acalls_of_awp Try.func79 rfl Try.ntmps79 (congrArg Array.toList Try.results79) (by simp) ?_
  simp only [go_sem]
  refine awp_rq zs [1] ?_
  refine awp_rq zs [2] ?_
  refine awp_ret ?_
  try simp only [go_sem, seval]
  refine ⟨_, rfl, ?_, Frz.eq (by simp [outD]) trivial⟩
  intro k hk; have h0 : k ≠ n := by omega
  simp [Heap.put, h0]
theorem c_retain_walk_version (T : Tk Try.prog) (ok : T.σ → Prop) (hT : TkOK T ok) (w : Wlk) (st : T.σ) (e : Ent) (H : Heap) (n : Nat) (ha : Ahead T H n w st) (hok : ok st) :
    ACalls Try.prog 78 [.loc T.kw 0 0 0 [], entAV e] H n (LeftU T H n (verW w e) (verT T w st)) := by
  obtain ⟨hkw, hkeys, hw, htk⟩ := ha
  have hnk : ∀ j, (T.kw = n + j) = False := fun j => by simp; omega
  have hnk0 : (T.kw = n) = False := by simp; omega
  have hkn : ∀ j, (n + j = T.kw) = False := fun j => by simp; omega
  have hkn0 : (n = T.kw) = False := by simp; omega
  simp only [walkAV, tkAV] at hw
  refine acalls_of_awp Try.func78 rfl Try.ntmps78 (congrArg Array.toList Try.results78) (by simp) ?_
  simp only [go_sem]
  refine awp_reg zs [0, 3] fun K hK => ?_
  try simp only [go_sem, seval, hw, hnk, hnk0, hkn, hkn0, walkAV, tkAV]
  repeat refine peel ?_
  refine hK _ _ _ ?_; clear hK K
  refine awp_seq_k fun K1 hK1 => ?_
  refine awp_reg zs [0, 3, 8] fun K hK => ?_
  try simp only [go_sem, seval, hw, hnk, hnk0, hkn, hkn0, walkAV, tkAV]
  repeat refine peel ?_
  refine hK _ _ _ ?_; clear hK K
  refine awp_cnd (fun hb => ?_) (fun hb => ?_)
  ·skip
   have hop : w.opn = false := by simpa using hb
   refine awp_drw rfl zs [] [.m, .m, .q, .q, .q, .q, .q, .q, .q, .w [2, 3, 4, 5, 6], .q, .q, .w []] (by kernel_rfl) (fun _ _ _ _ _ h => h) fun K hK => ?_
   try simp only [go_sem, seval, hw, hnk, hnk0, hkn, hkn0, walkAV, tkAV]
   repeat refine peel ?_
   refine hK _ _ _ ?_; clear hK K
   refine awp_ret ?_
   try simp only [go_sem, seval, hw, hnk, hnk0, hkn, hkn0, walkAV, tkAV]
   first
   | (refine ⟨rfl, ?_⟩
      rw [hvw, show verT T w st = T.old st by simp [verT, hop]]
      refine hL.up (by omega) fun k hk h1 h2 => ?_
      have h3 : k ≠ n := by omega
      simp [Heap.put, h1, h3])
   | (refine ⟨rfl, by omega, ?_, ?_, fun k hk h1 h2 => ?_⟩
      · simp [Heap.put, verW, hop, walkAV, tkAV, entAV, schAV, bys]
      · rw [show verT T w st = st by simp [verT, hop]]
        refine T.ext st H _ n _ (by omega) (fun k hk h2 => ?_) htk
        have h1 : k ≠ n := by omega
        simp [Heap.put, h1, h2]
      · have h3 : k ≠ n := by omega
        simp [Heap.put, h1, h3])
  ·skip
   have hop : w.opn = true := by simpa using hb
   refine awp_skip ?_
   try simp only [go_sem, seval, hw, hnk, hnk0, hkn, hkn0, walkAV, tkAV]
   refine hK1 _ _ _ ?_
   first | clear hK1 K1 | skip
   refine awp_seq_k fun K2 hK2 => ?_
   refine awp_reg zs [0, 22] fun K hK => ?_
   try simp only [go_sem, seval, hw, hnk, hnk0, hkn, hkn0, walkAV, tkAV]
   repeat refine peel ?_
   refine hK _ _ _ ?_; clear hK K
   refine awp_cnd (fun hb => ?_) (fun hb => ?_)
   ·skip
    have hkd : e.kind ≠ 3 := by simpa using hb
    obtain ⟨w1, hw1⟩ : ∃ w1, w1 = { w with lone := false } := ⟨_, rfl⟩
    have hvw : verW w e = w1 := by rw [hw1]; simp [verW, hop, hkd]
    refine awp_reg1 zs [0] fun K hK => ?_
    try simp only [go_sem, seval, hw, hnk, hnk0, hkn, hkn0, walkAV, tkAV]
    repeat refine peel ?_
    refine hK _ _ _ ?_; clear hK K
    try simp only [go_sem, seval, hw, hnk, hnk0, hkn, hkn0, walkAV, tkAV]
    refine hK2 _ _ _ ?_
    first | clear hK2 K2 | skip
    refine awp_reg1 zs [] fun K hK => ?_
    try simp only [go_sem, seval, hw, hnk, hnk0, hkn, hkn0, walkAV, tkAV]
    repeat refine peel ?_
    obtain ⟨fn0, hf0, hb0, hn0⟩ := T.fo
    refine callK_useK hf0 hb0 hn0 rfl (hT.co w1 st _ _ ⟨by omega, fun k hk => by have := hkeys k hk; omega, ?_, T.ext st H _ n _ (by omega) ?_ htk⟩ hok) ?_ ?_
    · subst hw1; simp [Heap.put, hnk, hnk0, hkn0, hw, walkAV, tkAV, entAV, schAV, bys]
    · intro k hk h2; have h1 : k ≠ n := by omega
      simp [Heap.put, h1, h2]
    rotate_left
    · intro p H' n' h; cases h.1
    intro r H2 n2 ⟨hr2, hL⟩
    cases hr2
    try simp only [go_sem, seval, hw, hnk, hnk0, hkn, hkn0, walkAV, tkAV]
    repeat refine peel ?_
    refine hK _ _ _ ?_; clear hK K
    try simp only [go_sem, seval, hw, hnk, hnk0, hkn, hkn0, walkAV, tkAV]
    try simp only [go_sem, seval, hw, hnk, hnk0, hkn, hkn0, walkAV, tkAV]
    first
    | (refine ⟨rfl, ?_⟩
       rw [hvw, show verT T w st = T.old st by simp [verT, hop]]
       refine hL.up (by omega) fun k hk h1 h2 => ?_
       have h3 : k ≠ n := by omega
       simp [Heap.put, h1, h3])
    | (refine ⟨rfl, by omega, ?_, ?_, fun k hk h1 h2 => ?_⟩
       · simp [Heap.put, verW, hop, walkAV, tkAV, entAV, schAV, bys]
       · rw [show verT T w st = st by simp [verT, hop]]
         refine T.ext st H _ n _ (by omega) (fun k hk h2 => ?_) htk
         have h1 : k ≠ n := by omega
         simp [Heap.put, h1, h2]
       · have h3 : k ≠ n := by omega
         simp [Heap.put, h1, h3])
   ·skip
    have hkd : e.kind = 3 := by simpa using hb
    obtain ⟨w1, hw1⟩ : ∃ w1, w1 = w := ⟨_, rfl⟩
    have hvw : verW w e = w1 := by rw [hw1]; simp [verW, hop, hkd]; cases w; simp_all
    refine awp_skip ?_
    try simp only [go_sem, seval, hw, hnk, hnk0, hkn, hkn0, walkAV, tkAV]
    refine hK2 _ _ _ ?_
    first | clear hK2 K2 | skip
    refine awp_reg1 zs [] fun K hK => ?_
    try simp only [go_sem, seval, hw, hnk, hnk0, hkn, hkn0, walkAV, tkAV]
    repeat refine peel ?_
    obtain ⟨fn0, hf0, hb0, hn0⟩ := T.fo
    refine callK_useK hf0 hb0 hn0 rfl (hT.co w1 st _ _ ⟨by omega, fun k hk => by have := hkeys k hk; omega, ?_, T.ext st H _ n _ (by omega) ?_ htk⟩ hok) ?_ ?_
    · subst hw1; simp [Heap.put, hnk, hnk0, hkn0, hw, walkAV, tkAV, entAV, schAV, bys]
    · intro k hk h2; have h1 : k ≠ n := by omega
      simp [Heap.put, h1, h2]
    rotate_left
    · intro p H' n' h; cases h.1
    intro r H2 n2 ⟨hr2, hL⟩
    cases hr2
    try simp only [go_sem, seval, hw, hnk, hnk0, hkn, hkn0, walkAV, tkAV]
    repeat refine peel ?_
    refine hK _ _ _ ?_; clear hK K
    try simp only [go_sem, seval, hw, hnk, hnk0, hkn, hkn0, walkAV, tkAV]
    try simp only [go_sem, seval, hw, hnk, hnk0, hkn, hkn0, walkAV, tkAV]
    first
    | (refine ⟨rfl, ?_⟩
       rw [hvw, show verT T w st = T.old st by simp [verT, hop]]
       refine hL.up (by omega) fun k hk h1 h2 => ?_
       have h3 : k ≠ n := by omega
       simp [Heap.put, h1, h3])
    | (refine ⟨rfl, by omega, ?_, ?_, fun k hk h1 h2 => ?_⟩
       · simp [Heap.put, verW, hop, walkAV, tkAV, entAV, schAV, bys]
       · rw [show verT T w st = st by simp [verT, hop]]
         refine T.ext st H _ n _ (by omega) (fun k hk h2 => ?_) htk
         have h1 : k ≠ n := by omega
         simp [Heap.put, h1, h2]
       · have h3 : k ≠ n := by omega
         simp [Heap.put, h1, h3])
theorem c_retain_walk_close (T : Tk Try.prog) (ok : T.σ → Prop) (hT : TkOK T ok) (w : Wlk) (st : T.σ) (H : Heap) (n : Nat) (ha : Ahead T H n w st) (hok : ok st) (hwk : WOK w) :
    ACalls Try.prog 64 [.loc T.kw 0 0 0 []] H n (LeftU T H n (closeW w) (closeT T w st)) := by
  obtain ⟨hkw, hkeys, hw, htk⟩ := ha
  have hnk : ∀ j, (T.kw = n + j) = False := fun j => by simp; omega
  have hnk0 : (T.kw = n) = False := by simp; omega
  have hkn : ∀ j, (n + j = T.kw) = False := fun j => by simp; omega
  have hkn0 : (n = T.kw) = False := by simp; omega
  simp only [walkAV, tkAV] at hw
  refine acalls_of_awp Try.func64 rfl Try.ntmps64 (congrArg Array.toList Try.results64) (by simp) ?_
  simp only [go_sem]
  refine awp_seq_k fun K1 hK1 => ?_
  refine awp_reg zs [0, 9] fun K hK => ?_
  try simp only [go_sem, seval, hw, hnk, hnk0, hkn, hkn0, walkAV, tkAV]
  repeat refine peel ?_
  refine hK _ _ _ ?_; clear hK K
  refine awp_cnd (fun hb => ?_) (fun hb => ?_)
  ·skip
   have hop : w.opn = false := by simpa using hb
   refine awp_ret ?_
   try simp only [go_sem, seval, hw, hnk, hnk0, hkn, hkn0, walkAV, tkAV]
   first
   | (refine ⟨rfl, ?_⟩
      have hg : closeT T w st = T.grp (closeW w).s st (decOf w) := by simp [closeT, hop, hcw]
      rw [hg]
      refine hL.up (by omega) fun k hk h1 h2 => ?_
      have h3 : k ≠ n := by omega
      have h4 : ∀ j, k ≠ n + j := fun j => by omega
      simp [Heap.put, h1, h3, h4])
   | (refine ⟨rfl, by omega, ?_, ?_, fun k hk h1 h2 => rfl⟩
      · simp [closeW, hop, hw, walkAV, tkAV, entAV, schAV, bys]
      · rw [show closeT T w st = st by simp [closeT, hop]]; exact htk)
  ·skip
   have hop : w.opn = true := by simpa using hb
   obtain ⟨hf0, hf1, hfit, hts0, hts1⟩ := hwk.fam hop
   have hmem : famAt w.s w.ge.fam ∈ w.s := by
     have : w.ge.fam.toNat < w.s.length := by omega
     simp [famAt, List.getD, List.getElem?_eq_getElem this]
   have httl := hwk.ttl _ hmem
   have hnth : nth (w.s.map famAV) w.ge.fam.toNat = famAV (famAt w.s w.ge.fam) := nth_map famAV _ _ (by omega)
   have hwrap : IntKind.i64.wrap (w.ge.ts + (famAt w.s w.ge.fam).ttl) = w.ge.ts + (famAt w.s w.ge.fam).ttl := w64 (by omega) (by omega)
   have hrk : IntKind.i64.wrap (w.rank + 1) = w.rank + 1 := by have := hwk.rank; exact w64 (by omega) (by omega)
   refine awp_skip ?_
   try simp only [go_sem, seval, hw, hnk, hnk0, hkn, hkn0, walkAV, tkAV]
   refine hK1 _ _ _ ?_
   first | clear hK1 K1 | skip
   refine awp_reg zs [0] fun K hK => ?_
   try simp only [go_sem, seval, hw, hnk, hnk0, hkn, hkn0, walkAV, tkAV]
   repeat refine peel ?_
   refine hK _ _ _ ?_; clear hK K
   refine awp_reg zs [0, 2] fun K hK => ?_
   try simp only [go_sem, seval, hw, hnk, hnk0, hkn, hkn0, walkAV, tkAV]
   repeat refine peel ?_
   refine hK _ _ _ ?_; clear hK K
   refine awp_drw rfl zs [0, 2, 3] [.m, .q, .q, .q, .q, .q, .q, .q, .q, .w [1, 2, 3, 4, 5, 6, 7, 8], .w []] (by kernel_rfl) (fun _ _ _ _ _ h => h) fun K hK => ?_
   try simp only [go_sem, seval, hw, hnk, hnk0, hkn, hkn0, walkAV, tkAV, hnth]
   repeat refine peel ?_
   refine hK _ _ _ ?_; clear hK K
   refine awp_drw rfl zs [0, 2, 3, 4] [.q, .m, .q, .q, .q, .q, .q, .q, .q, .m, .q, .q, .q, .m, .m, .q, .q, .q, .q, .q, .q, .q, .q, .w [0, 2, 3, 4, 5, 6, 7, 8, 10, 11, 12, 15, 16, 17, 18, 19, 20, 21, 22], .w []] (by kernel_rfl) (fun _ _ _ _ _ h => h) fun K hK => ?_
   try simp only [go_sem, seval, hw, hnk, hnk0, hkn, hkn0, walkAV, tkAV]
   repeat refine peel ?_
   refine hK _ _ _ ?_; clear hK K
   refine awp_drw rfl zs [0, 2, 3, 4] [.q, .q, .m, .q, .q, .q, .m, .q, .q, .q, .q, .q, .q, .w []] (by kernel_rfl) (fun _ _ _ _ _ h => h) fun K hK => ?_
   try simp only [go_sem, seval, hw, hnk, hnk0, hkn, hkn0, walkAV, tkAV]
   repeat refine peel ?_
   refine hK _ _ _ ?_; clear hK K
   refine awp_drw rfl zs [0, 4] [.q, .q, .q, .m, .q, .q, .q, .q, .q, .m, .q, .q, .q, .q, .q, .q, .w []] (by kernel_rfl) (fun _ _ _ _ _ h => h) fun K hK => ?_
   try simp only [go_sem, seval, hw, hnk, hnk0, hkn, hkn0, walkAV, tkAV, hwrap]
   repeat refine peel ?_
   refine hK _ _ _ ?_; clear hK K
   refine awp_seq_k fun K2 hK2 => ?_
   refine awp_reg zs [0, 4, 86] fun K hK => ?_
   try simp only [go_sem, seval, hw, hnk, hnk0, hkn, hkn0, walkAV, tkAV]
   repeat refine peel ?_
   refine callK_use Try.func79 rfl rfl rfl ((c_retain_decided_out (dec0 w) _ _)) ?_
   try simp only [go_sem, seval, hw, hnk, hnk0, hkn, hkn0, walkAV, tkAV]
   repeat refine peel ?_
   refine hK _ _ _ ?_; clear hK K
   refine awp_cnd (fun hb => ?_) (fun hb => ?_)
   ·skip
    have hdec : decOf w = { dec0 w with rank := w.rank + 1 } := by unfold decOf; cases h1 : outD (dec0 w) <;> cases h2 : w.lone <;> simp_all
    have hcw : closeW w = { w with opn := false, rank := w.rank + 1 } := by unfold closeW; cases h1 : outD (dec0 w) <;> cases h2 : w.lone <;> simp_all
    refine awp_reg zs [0, 4] fun K hK => ?_
    try simp only [go_sem, seval, hw, hnk, hnk0, hkn, hkn0, walkAV, tkAV, hrk]
    repeat refine peel ?_
    refine hK _ _ _ ?_; clear hK K
    refine awp_reg1 zs [0, 4] fun K hK => ?_
    try simp only [go_sem, seval, hw, hnk, hnk0, hkn, hkn0, walkAV, tkAV]
    repeat refine peel ?_
    refine hK _ _ _ ?_; clear hK K
    try simp only [go_sem, seval, hw, hnk, hnk0, hkn, hkn0, walkAV, tkAV]
    refine hK2 _ _ _ ?_
    first | clear hK2 K2 | skip
    refine awp_drw1 rfl zs [] [.m, .q, .q, .q, .q, .q, .w []] (by kernel_rfl) (fun _ _ _ _ _ h => h) fun K hK => ?_
    try simp only [go_sem, seval, hw, hnk, hnk0, hkn, hkn0, walkAV, tkAV]
    repeat refine peel ?_
    obtain ⟨fn0, hfn0, hb0, hn0⟩ := T.fg
    refine callK_useK (args' := [T.recv, decAV (decOf w)]) hfn0 hb0 hn0 ?_ (hT.cg (closeW w) st (decOf w) _ (n + 3) ⟨by omega, fun k hk => by have := hkeys k hk; omega, ?_, T.ext st H _ n _ (by omega) ?_ htk⟩ hok ?_ ?_ ?_) ?_ ?_
    · rw [hdec]; rfl
    · rw [hcw]; simp [Heap.put, hnk, hnk0, hkn0, walkAV, tkAV, entAV, schAV, bys]
    · intro k hk h2; have h1 : k ≠ n := by omega
      have h3 : ∀ j, k ≠ n + j := fun j => by omega
      simp [Heap.put, h1, h2, h3]
    · rw [hdec]; exact hf0
    · rw [hdec, hcw]; exact hf1
    · rw [hdec]; exact hfit
    rotate_left
    · intro p H' n' h; cases h.1
    intro r H2 n2 ⟨hr2, hL⟩
    cases hr2
    try simp only [go_sem, seval, hw, hnk, hnk0, hkn, hkn0, walkAV, tkAV]
    repeat refine peel ?_
    refine hK _ _ _ ?_; clear hK K
    try simp only [go_sem, seval, hw, hnk, hnk0, hkn, hkn0, walkAV, tkAV]
    try simp only [go_sem, seval, hw, hnk, hnk0, hkn, hkn0, walkAV, tkAV]
    first
    | (refine ⟨rfl, ?_⟩
       have hg : closeT T w st = T.grp (closeW w).s st (decOf w) := by simp [closeT, hop, hcw]
       rw [hg]
       refine hL.up (by omega) fun k hk h1 h2 => ?_
       have h3 : k ≠ n := by omega
       have h4 : ∀ j, k ≠ n + j := fun j => by omega
       simp [Heap.put, h1, h3, h4])
    | (refine ⟨rfl, by omega, ?_, ?_, fun k hk h1 h2 => rfl⟩
       · simp [closeW, hop, hw, walkAV, tkAV, entAV, schAV, bys]
       · rw [show closeT T w st = st by simp [closeT, hop]]; exact htk)
   ·skip
    have hdec : decOf w = dec0 w := by unfold decOf; cases h1 : outD (dec0 w) <;> cases h2 : w.lone <;> simp_all
    have hcw : closeW w = { w with opn := false } := by unfold closeW; cases h1 : outD (dec0 w) <;> cases h2 : w.lone <;> simp_all
    refine awp_skip ?_
    try simp only [go_sem, seval, hw, hnk, hnk0, hkn, hkn0, walkAV, tkAV]
    refine hK2 _ _ _ ?_
    first | clear hK2 K2 | skip
    refine awp_drw1 rfl zs [] [.m, .q, .q, .q, .q, .q, .w []] (by kernel_rfl) (fun _ _ _ _ _ h => h) fun K hK => ?_
    try simp only [go_sem, seval, hw, hnk, hnk0, hkn, hkn0, walkAV, tkAV]
    repeat refine peel ?_
    obtain ⟨fn0, hfn0, hb0, hn0⟩ := T.fg
    refine callK_useK (args' := [T.recv, decAV (decOf w)]) hfn0 hb0 hn0 ?_ (hT.cg (closeW w) st (decOf w) _ (n + 3) ⟨by omega, fun k hk => by have := hkeys k hk; omega, ?_, T.ext st H _ n _ (by omega) ?_ htk⟩ hok ?_ ?_ ?_) ?_ ?_
    · rw [hdec]; rfl
    · rw [hcw]; simp [Heap.put, hnk, hnk0, hkn0, walkAV, tkAV, entAV, schAV, bys]
    · intro k hk h2; have h1 : k ≠ n := by omega
      have h3 : ∀ j, k ≠ n + j := fun j => by omega
      simp [Heap.put, h1, h2, h3]
    · rw [hdec]; exact hf0
    · rw [hdec, hcw]; exact hf1
    · rw [hdec]; exact hfit
    rotate_left
    · intro p H' n' h; cases h.1
    intro r H2 n2 ⟨hr2, hL⟩
    cases hr2
    try simp only [go_sem, seval, hw, hnk, hnk0, hkn, hkn0, walkAV, tkAV]
    repeat refine peel ?_
    refine hK _ _ _ ?_; clear hK K
    try simp only [go_sem, seval, hw, hnk, hnk0, hkn, hkn0, walkAV, tkAV]
    try simp only [go_sem, seval, hw, hnk, hnk0, hkn, hkn0, walkAV, tkAV]
    first
    | (refine ⟨rfl, ?_⟩
       have hg : closeT T w st = T.grp (closeW w).s st (decOf w) := by simp [closeT, hop, hcw]
       rw [hg]
       refine hL.up (by omega) fun k hk h1 h2 => ?_
       have h3 : k ≠ n := by omega
       have h4 : ∀ j, k ≠ n + j := fun j => by omega
       simp [Heap.put, h1, h3, h4])
    | (refine ⟨rfl, by omega, ?_, ?_, fun k hk h1 h2 => rfl⟩
       · simp [closeW, hop, hw, walkAV, tkAV, entAV, schAV, bys]
       · rw [show closeT T w st = st by simp [closeT, hop]]; exact htk)
end Go.Proofs.Ytijhkfhflpmajaa
namespace Go.Proofs.Ytijhkfhflpmajaa
open Go Go.Sx Go.Rt Go.Proofs
theorem c_retain_walk_next (T : Tk Try.prog) (ok : T.σ → Prop) (hT : TkOK T ok) (w : Wlk) (st : T.σ) (e : Ent) (H : Heap) (n : Nat) (ha : Ahead T H n w st) (hok : ok st) (hok1 : ok (nt1 T w st e)) (hwk : WOK w) (hfit : e.fits) :
    ACalls Try.prog 63 [.loc T.kw 0 0 0 [], entAV e] H n (LeftU T H n (nextW w e) (nextT T w st e)) := by
  obtain ⟨hkw, hkeys, hw0, htk0⟩ := ha
  have hnk : ∀ j, (T.kw = n + j) = False := fun j => by simp; omega
  have hnk0 : (T.kw = n) = False := by simp; omega
  have hkn : ∀ j, (n + j = T.kw) = False := fun j => by simp; omega
  have hkn0 : (n = T.kw) = False := by simp; omega
  have hw := hw0
  have he : (0 : Nat) = 0 := rfl
  simp only [walkAV, tkAV] at hw
  refine acalls_of_awp Try.func63 rfl Try.ntmps63 (congrArg Array.toList Try.results63) (by simp) ?_
  simp only [go_sem]
  refine awp_reg zs [0, 3] fun K hK => ?_
  try simp only [go_sem, seval, hw, he, hnk, hnk0, hkn, hkn0, walkAV, tkAV]
  repeat refine peel ?_
  refine hK _ _ _ ?_; clear hK K
  refine awp_seq_j (Amid T H n e (nx1 w e) (nt1 T w st e)) ?_ ?_
  ·skip
   refine awp_drw rfl zs [0, 3, 33] [.m, .q, .q, .q, .m, .m, .q, .q, .q, .q, .q, .c, .q, .m, .m, .q, .q, .q, .q, .q, .q, .q, .q, .q, .m, .q, .q, .q, .q, .q] (by kernel_rfl) (fun _ _ _ _ _ h => h) fun K hK => ?_
   try simp only [go_sem, seval, hw, he, hnk, hnk0, hkn, hkn0, walkAV, tkAV]
   repeat refine peel ?_
   refine callQG_use Try.func76 rfl rfl rfl (fun _ n => (c_retain_sameCol w.ge e _ _)) ?_
   try simp only [go_sem, seval, hw, he, hnk, hnk0, hkn, hkn0, walkAV, tkAV]
   repeat refine peel ?_
   refine hK _ _ _ ?_; clear hK K
   refine awp_cnd (fun hb => ?_) (fun hb => ?_)
   ·skip
    have hb1 : endsE w e = true := hb
    refine awp_reg1 zs [0, 3] fun K hK => ?_
    try simp only [go_sem, seval, hw, he, hnk, hnk0, hkn, hkn0, walkAV, tkAV]
    repeat refine peel ?_
    refine callK_useK (args' := [.loc T.kw 0 0 0 []]) Try.func64 rfl rfl rfl (c_retain_walk_close T ok hT w st _ (n + 1) ⟨by omega, fun k hk => by have := hkeys k hk; omega, by simp [Heap.put, hnk0, hw0], T.ext st H _ n _ (by omega) ?_ htk0⟩ hok hwk) ?_ ?_
    · intro k hk h2; have h1 : k ≠ n := by omega
      simp [Heap.put, h1]
    rotate_left
    · intro p H' n' h; cases h.1
    intro r H2 n2 ⟨hr2, hL⟩
    try simp only [go_sem, seval, hw, he, hnk, hnk0, hkn, hkn0, walkAV, tkAV]
    repeat refine peel ?_
    refine hK _ _ _ ?_; clear hK K
    try simp only [go_sem, seval, hw, he, hnk, hnk0, hkn, hkn0, walkAV, tkAV]
    first
    | (refine ⟨rfl, rfl, ?_, by have := hL.le; omega, ?_, ?_, fun k hk h1 h2 => ?_⟩
       · have := hL.rest n (by omega) (by omega) (fun h => by have := hkeys n h; omega)
         rw [this]; simp [Heap.put, entAV, bys]
       · simp only [nx1, hb1, cond_true]; exact hL.walk
       · simp only [nt1, hb1, cond_true]; exact hL.tk
       · rw [hL.rest k (by omega) h1 h2]; have h3 : k ≠ n := by omega
         simp [Heap.put, h3])
    | (refine ⟨rfl, rfl, by simp [Heap.put, entAV, bys], by omega, ?_, ?_, fun k hk h1 h2 => ?_⟩
       · simp only [nx1, hb1, cond_false]; simp [Heap.put, hnk0, hw0]
       · simp only [nt1, hb1, cond_false]
         refine T.ext st H _ n _ (by omega) (fun k hk h2 => ?_) htk0
         have h1 : k ≠ n := by omega
         simp [Heap.put, h1]
       · have h3 : k ≠ n := by omega
         simp [Heap.put, h3])
   ·skip
    have hb1 : endsE w e = false := hb
    refine awp_skip ?_
    try simp only [go_sem, seval, hw, he, hnk, hnk0, hkn, hkn0, walkAV, tkAV]
    first
    | (refine ⟨rfl, rfl, ?_, by have := hL.le; omega, ?_, ?_, fun k hk h1 h2 => ?_⟩
       · have := hL.rest n (by omega) (by omega) (fun h => by have := hkeys n h; omega)
         rw [this]; simp [Heap.put, entAV, bys]
       · simp only [nx1, hb1, cond_true]; exact hL.walk
       · simp only [nt1, hb1, cond_true]; exact hL.tk
       · rw [hL.rest k (by omega) h1 h2]; have h3 : k ≠ n := by omega
         simp [Heap.put, h3])
    | (refine ⟨rfl, rfl, by simp [Heap.put, entAV, bys], by omega, ?_, ?_, fun k hk h1 h2 => ?_⟩
       · simp only [nx1, hb1, cond_false]; simp [Heap.put, hnk0, hw0]
       · simp only [nt1, hb1, cond_false]
         refine T.ext st H _ n _ (by omega) (fun k hk h2 => ?_) htk0
         have h1 : k ≠ n := by omega
         simp [Heap.put, h1]
       · have h3 : k ≠ n := by omega
         simp [Heap.put, h3])
  rintro T1 H1 n1 ⟨ht0, ht3, he0, hn, hw0, htk, hrest⟩
  refine awp_sel [0, 3] ?_
  simp only [tsel_eq, List.map_cons, List.map_nil, ht0, ht3]
  have hw := hw0
  have he := he0
  simp only [walkAV, tkAV, entAV, schAV, bys] at hw he
  refine awp_seq_j (Amid T H n e (nx2 (nx1 w e) e) (nt1 T w st e)) ?_ ?_
  ·skip
   refine awp_drw rfl zs [0, 3, 49] [.m, .q, .q, .q, .q, .m, .m, .q, .q, .q, .q, .c, .q, .q] (by kernel_rfl) (fun _ _ _ _ _ h => h) fun K hK => ?_
   try simp only [go_sem, seval, hw, he, hnk, hnk0, hkn, hkn0, walkAV, tkAV]
   repeat refine peel ?_
   refine callQG_use Try.func77 rfl rfl rfl (fun _ n => (c_retain_sameFam (nx1 w e).last e _ _)) ?_
   try simp only [go_sem, seval, hw, he, hnk, hnk0, hkn, hkn0, walkAV, tkAV]
   repeat refine peel ?_
   refine hK _ _ _ ?_; clear hK K
   refine awp_cnd (fun hb => ?_) (fun hb => ?_)
   ·skip
    have hb2 : newFam (nx1 w e) e = true := hb
    refine awp_reg1 zs [0, 3] fun K hK => ?_
    try simp only [go_sem, seval, hw, he, hnk, hnk0, hkn, hkn0, walkAV, tkAV]
    repeat refine peel ?_
    refine hK _ _ _ ?_; clear hK K
    try simp only [go_sem, seval, hw, he, hnk, hnk0, hkn, hkn0, walkAV, tkAV]
    first
    | (simp only [nx2, hb2, cond_false]; exact ⟨rfl, rfl, he0, hn, hw0, htk, hrest⟩)
    | (simp only [nx2, hb2, cond_true]; exact amid_put hkw he0 hn htk hrest { nx1 w e with famMask := 0, colMask := 0, rank := 0 } rfl rfl)
   ·skip
    have hb2 : newFam (nx1 w e) e = false := hb
    refine awp_skip ?_
    try simp only [go_sem, seval, hw, he, hnk, hnk0, hkn, hkn0, walkAV, tkAV]
    first
    | (simp only [nx2, hb2, cond_false]; exact ⟨rfl, rfl, he0, hn, hw0, htk, hrest⟩)
    | (simp only [nx2, hb2, cond_true]; exact amid_put hkw he0 hn htk hrest { nx1 w e with famMask := 0, colMask := 0, rank := 0 } rfl rfl)
  rintro T1 H1 n1 ⟨ht0, ht3, he0, hn, hw0, htk, hrest⟩
  refine awp_sel [0, 3] ?_
  simp only [tsel_eq, List.map_cons, List.map_nil, ht0, ht3]
  have hw := hw0
  have he := he0
  simp only [walkAV, tkAV, entAV, schAV, bys] at hw he
  refine awp_seq_j (Amid T H n e (nx3 (nx2 (nx1 w e) e) e) (nt1 T w st e)) ?_ ?_
  ·skip
   refine awp_drw rfl zs [0, 3, 71] [.m, .q, .q, .q, .m, .m, .q, .q, .q, .q, .c, .q, .q] (by kernel_rfl) (fun _ _ _ _ _ h => h) fun K hK => ?_
   try simp only [go_sem, seval, hw, he, hnk, hnk0, hkn, hkn0, walkAV, tkAV]
   repeat refine peel ?_
   refine callQG_use Try.func76 rfl rfl rfl (fun _ n => (c_retain_sameCol (nx2 (nx1 w e) e).last e _ _)) ?_
   try simp only [go_sem, seval, hw, he, hnk, hnk0, hkn, hkn0, walkAV, tkAV]
   repeat refine peel ?_
   refine hK _ _ _ ?_; clear hK K
   refine awp_cnd (fun hb => ?_) (fun hb => ?_)
   ·skip
    have hb3 : newCol (nx2 (nx1 w e) e) e = true := hb
    refine awp_reg1 zs [0, 3] fun K hK => ?_
    try simp only [go_sem, seval, hw, he, hnk, hnk0, hkn, hkn0, walkAV, tkAV]
    repeat refine peel ?_
    refine hK _ _ _ ?_; clear hK K
    try simp only [go_sem, seval, hw, he, hnk, hnk0, hkn, hkn0, walkAV, tkAV]
    first
    | (simp only [nx3, hb3, cond_false]; exact ⟨rfl, rfl, he0, hn, hw0, htk, hrest⟩)
    | (simp only [nx3, hb3, cond_true]; exact amid_put hkw he0 hn htk hrest { nx2 (nx1 w e) e with colMask := 0, rank := 0 } rfl rfl)
   ·skip
    have hb3 : newCol (nx2 (nx1 w e) e) e = false := hb
    refine awp_skip ?_
    try simp only [go_sem, seval, hw, he, hnk, hnk0, hkn, hkn0, walkAV, tkAV]
    first
    | (simp only [nx3, hb3, cond_false]; exact ⟨rfl, rfl, he0, hn, hw0, htk, hrest⟩)
    | (simp only [nx3, hb3, cond_true]; exact amid_put hkw he0 hn htk hrest { nx2 (nx1 w e) e with colMask := 0, rank := 0 } rfl rfl)
  rintro T1 H1 n1 ⟨ht0, ht3, he0, hn, hw0, htk, hrest⟩
  refine awp_sel [0, 3] ?_
  simp only [tsel_eq, List.map_cons, List.map_nil, ht0, ht3]
  have hw := hw0
  have he := he0
  simp only [walkAV, tkAV, entAV, schAV, bys] at hw he
  refine awp_drw rfl zs [0, 3] [.m, .m, .q, .q, .q, .w [2], .q, .q, .w []] (by kernel_rfl) (fun _ _ _ _ _ h => h) fun K hK => ?_
  try simp only [go_sem, seval, hw, he, hnk, hnk0, hkn, hkn0, walkAV, tkAV]
  repeat refine peel ?_
  refine hK _ _ _ ?_; clear hK K
  refine awp_reg zs [0, 3, 86] fun K hK => ?_
  try simp only [go_sem, seval, hw, he, hnk, hnk0, hkn, hkn0, walkAV, tkAV]
  repeat refine peel ?_
  refine hK _ _ _ ?_; clear hK K
  refine awp_block ?_
  refine awp_reg zs [0, 3, 86, 90] fun K hK => ?_
  try simp only [go_sem, seval, hw, he, hnk, hnk0, hkn, hkn0, walkAV, tkAV]
  repeat refine peel ?_
  refine hK _ _ _ ?_; clear hK K
  refine awp_cnd (fun hb => ?_) (fun hb => ?_)
  ·skip
   have hk5 : e.kind = 5 := by simpa using hb
   refine awp_drw rfl zs [0, 3] [.m, .q, .q, .q, .q, .q, .m, .q, .q, .q, .q, .w []] (by kernel_rfl) (fun _ _ _ _ _ h => h) fun K hK => ?_
   try simp only [go_sem, seval, hw, he, hnk, hnk0, hkn, hkn0, walkAV, tkAV]
   repeat refine peel ?_
   obtain ⟨fn0, hfn0, hb0, hn0⟩ := T.fm
   refine callK_useK (args' := [T.recv, entAV e, .bool ((nx4 (nx3 (nx2 (nx1 w e) e) e) e).famMask == 0)]) hfn0 hb0 hn0 rfl (hT.cm (nx4 (nx3 (nx2 (nx1 w e) e) e) e) _ e ((nx4 (nx3 (nx2 (nx1 w e) e) e) e).famMask == 0) _ n1 (ahead_put hkw hkeys hn htk (nx4 (nx3 (nx2 (nx1 w e) e) e) e)) hok1 hfit) ?_ ?_
   rotate_left
   · intro p H' n' h; cases h.1
   intro r H2 n2 ⟨hr2, hL⟩
   cases hr2
   have hw := hL.walk
   have he : H2 n = some (.arr 0 7 [entAV e]) := by rw [hL.rest n (by omega) (by omega) (fun h => by have := hkeys n h; omega), put_kw _ (by omega)]; exact he0
   simp only [walkAV, tkAV, entAV, schAV, bys] at hw he
   try simp only [go_sem, seval, hw, he, hnk, hnk0, hkn, hkn0, walkAV, tkAV]
   repeat refine peel ?_
   refine hK _ _ _ ?_; clear hK K
   refine awp_drw1 rfl zs [] [.m, .m, .q, .q, .q, .q, .q, .q, .q, .q, .w []] (by kernel_rfl) (fun _ _ _ _ _ h => h) fun K hK => ?_
   try simp only [go_sem, seval, hw, he, hnk, hnk0, hkn, hkn0, walkAV, tkAV]
   repeat refine peel ?_
   refine hK _ _ _ ?_; clear hK K
   try simp only [go_sem, seval, hw, he, hnk, hnk0, hkn, hkn0, walkAV, tkAV]
   try simp only [go_sem, seval, hw, he, hnk, hnk0, hkn, hkn0, walkAV, tkAV]
   have hrest2 : ∀ k, k < n → k ≠ T.kw → ¬ T.keys k → H2 k = H k := fun k hk h1 h2 => by
     rw [hL.rest k (by omega) h1 h2]; first | (rw [put_kw _ h1]; exact hrest k hk h1 h2)
   have hle := hL.le
   refine ⟨rfl, ?_⟩
   unfold nextW nextT
   first
   | (rw [show nx5 (nx4 (nx3 (nx2 (nx1 w e) e) e) e) e = { (nx4 (nx3 (nx2 (nx1 w e) e) e) e) with famMask := max (nx4 (nx3 (nx2 (nx1 w e) e) e) e).famMask e.ts } by simp [nx5, hk5], show nt5 T (nx4 (nx3 (nx2 (nx1 w e) e) e) e) (nt1 T w st e) e = T.mrk (nt1 T w st e) e ((nx4 (nx3 (nx2 (nx1 w e) e) e) e).famMask == 0) by simp [nt5, hk5]]
      exact left_put (by omega) hL.tk hrest2 _)
   | (rw [show nx5 (nx4 (nx3 (nx2 (nx1 w e) e) e) e) e = { (nx4 (nx3 (nx2 (nx1 w e) e) e) e) with colMask := max (nx4 (nx3 (nx2 (nx1 w e) e) e) e).colMask e.ts } by simp [nx5, hk4], show nt5 T (nx4 (nx3 (nx2 (nx1 w e) e) e) e) (nt1 T w st e) e = T.mrk (nt1 T w st e) e (bif (nx4 (nx3 (nx2 (nx1 w e) e) e) e).colMask == 0 then decide ((nx4 (nx3 (nx2 (nx1 w e) e) e) e).famMask < e.ts) else false) by simp [nt5, hk4]]
      exact left_put (by omega) hL.tk hrest2 _)
   | (rw [show nx5 (nx4 (nx3 (nx2 (nx1 w e) e) e) e) e = verW (nx4 (nx3 (nx2 (nx1 w e) e) e) e) e by simp [nx5, hk4, hk5], show nt5 T (nx4 (nx3 (nx2 (nx1 w e) e) e) e) (nt1 T w st e) e = verT T (nx4 (nx3 (nx2 (nx1 w e) e) e) e) (nt1 T w st e) by simp [nt5, hk4, hk5]]
      exact ⟨by omega, hL.walk, hL.tk, hrest2⟩)
  ·skip
   have hk5 : ¬ e.kind = 5 := by simpa using hb
   refine awp_reg zs [0, 3, 114] fun K hK => ?_
   try simp only [go_sem, seval, hw, he, hnk, hnk0, hkn, hkn0, walkAV, tkAV]
   repeat refine peel ?_
   refine hK _ _ _ ?_; clear hK K
   refine awp_cnd (fun hb => ?_) (fun hb => ?_)
   ·skip
    have hk4 : e.kind = 4 := by simpa using hb
    refine awp_drw rfl zs [0, 3] [.m, .q, .q, .q, .q, .q, .m, .q, .q, .q, .q, .m, .q, .q, .m, .q, .q, .q, .q, .q, .w []] (by kernel_rfl) (fun _ _ _ _ _ h => h) fun K hK => ?_
    try simp only [go_sem, seval, hw, he, hnk, hnk0, hkn, hkn0, walkAV, tkAV]
    repeat refine peel ?_
    obtain ⟨fn0, hfn0, hb0, hn0⟩ := T.fm
    refine callK_useK (args' := [T.recv, entAV e, .bool (bif (nx4 (nx3 (nx2 (nx1 w e) e) e) e).colMask == 0 then decide ((nx4 (nx3 (nx2 (nx1 w e) e) e) e).famMask < e.ts) else false)]) hfn0 hb0 hn0 rfl (hT.cm (nx4 (nx3 (nx2 (nx1 w e) e) e) e) _ e (bif (nx4 (nx3 (nx2 (nx1 w e) e) e) e).colMask == 0 then decide ((nx4 (nx3 (nx2 (nx1 w e) e) e) e).famMask < e.ts) else false) _ n1 (ahead_put hkw hkeys hn htk (nx4 (nx3 (nx2 (nx1 w e) e) e) e)) hok1 hfit) ?_ ?_
    rotate_left
    · intro p H' n' h; cases h.1
    intro r H2 n2 ⟨hr2, hL⟩
    cases hr2
    have hw := hL.walk
    have he : H2 n = some (.arr 0 7 [entAV e]) := by rw [hL.rest n (by omega) (by omega) (fun h => by have := hkeys n h; omega), put_kw _ (by omega)]; exact he0
    simp only [walkAV, tkAV, entAV, schAV, bys] at hw he
    try simp only [go_sem, seval, hw, he, hnk, hnk0, hkn, hkn0, walkAV, tkAV]
    repeat refine peel ?_
    refine hK _ _ _ ?_; clear hK K
    refine awp_drw1 rfl zs [] [.m, .m, .q, .q, .q, .q, .q, .q, .q, .q, .w []] (by kernel_rfl) (fun _ _ _ _ _ h => h) fun K hK => ?_
    try simp only [go_sem, seval, hw, he, hnk, hnk0, hkn, hkn0, walkAV, tkAV]
    repeat refine peel ?_
    refine hK _ _ _ ?_; clear hK K
    try simp only [go_sem, seval, hw, he, hnk, hnk0, hkn, hkn0, walkAV, tkAV]
    try simp only [go_sem, seval, hw, he, hnk, hnk0, hkn, hkn0, walkAV, tkAV]
    have hrest2 : ∀ k, k < n → k ≠ T.kw → ¬ T.keys k → H2 k = H k := fun k hk h1 h2 => by
      rw [hL.rest k (by omega) h1 h2]; first | (rw [put_kw _ h1]; exact hrest k hk h1 h2)
    have hle := hL.le
    refine ⟨rfl, ?_⟩
    unfold nextW nextT
    first
    | (rw [show nx5 (nx4 (nx3 (nx2 (nx1 w e) e) e) e) e = { (nx4 (nx3 (nx2 (nx1 w e) e) e) e) with famMask := max (nx4 (nx3 (nx2 (nx1 w e) e) e) e).famMask e.ts } by simp [nx5, hk5], show nt5 T (nx4 (nx3 (nx2 (nx1 w e) e) e) e) (nt1 T w st e) e = T.mrk (nt1 T w st e) e ((nx4 (nx3 (nx2 (nx1 w e) e) e) e).famMask == 0) by simp [nt5, hk5]]
       exact left_put (by omega) hL.tk hrest2 _)
    | (rw [show nx5 (nx4 (nx3 (nx2 (nx1 w e) e) e) e) e = { (nx4 (nx3 (nx2 (nx1 w e) e) e) e) with colMask := max (nx4 (nx3 (nx2 (nx1 w e) e) e) e).colMask e.ts } by simp [nx5, hk4], show nt5 T (nx4 (nx3 (nx2 (nx1 w e) e) e) e) (nt1 T w st e) e = T.mrk (nt1 T w st e) e (bif (nx4 (nx3 (nx2 (nx1 w e) e) e) e).colMask == 0 then decide ((nx4 (nx3 (nx2 (nx1 w e) e) e) e).famMask < e.ts) else false) by simp [nt5, hk4]]
       exact left_put (by omega) hL.tk hrest2 _)
    | (rw [show nx5 (nx4 (nx3 (nx2 (nx1 w e) e) e) e) e = verW (nx4 (nx3 (nx2 (nx1 w e) e) e) e) e by simp [nx5, hk4, hk5], show nt5 T (nx4 (nx3 (nx2 (nx1 w e) e) e) e) (nt1 T w st e) e = verT T (nx4 (nx3 (nx2 (nx1 w e) e) e) e) (nt1 T w st e) by simp [nt5, hk4, hk5]]
       exact ⟨by omega, hL.walk, hL.tk, hrest2⟩)
   ·skip
    have hk4 : ¬ e.kind = 4 := by simpa using hb
    refine awp_reg1 zs [] fun K hK => ?_
    try simp only [go_sem, seval, hw, he, hnk, hnk0, hkn, hkn0, walkAV, tkAV]
    repeat refine peel ?_
    refine callK_useK (args' := [.loc T.kw 0 0 0 [], entAV e]) Try.func78 rfl rfl rfl (c_retain_walk_version T ok hT (nx4 (nx3 (nx2 (nx1 w e) e) e) e) _ e _ n1 (ahead_put hkw hkeys hn htk (nx4 (nx3 (nx2 (nx1 w e) e) e) e)) hok1) ?_ ?_
    rotate_left
    · intro p H' n' h; cases h.1
    intro r H2 n2 ⟨hr2, hL⟩
    cases hr2
    try simp only [go_sem, seval, hw, he, hnk, hnk0, hkn, hkn0, walkAV, tkAV]
    repeat refine peel ?_
    refine hK _ _ _ ?_; clear hK K
    try simp only [go_sem, seval, hw, he, hnk, hnk0, hkn, hkn0, walkAV, tkAV]
    try simp only [go_sem, seval, hw, he, hnk, hnk0, hkn, hkn0, walkAV, tkAV]
    have hrest2 : ∀ k, k < n → k ≠ T.kw → ¬ T.keys k → H2 k = H k := fun k hk h1 h2 => by
      rw [hL.rest k (by omega) h1 h2]; first | (rw [put_kw _ h1]; exact hrest k hk h1 h2)
    have hle := hL.le
    refine ⟨rfl, ?_⟩
    unfold nextW nextT
    first
    | (rw [show nx5 (nx4 (nx3 (nx2 (nx1 w e) e) e) e) e = { (nx4 (nx3 (nx2 (nx1 w e) e) e) e) with famMask := max (nx4 (nx3 (nx2 (nx1 w e) e) e) e).famMask e.ts } by simp [nx5, hk5], show nt5 T (nx4 (nx3 (nx2 (nx1 w e) e) e) e) (nt1 T w st e) e = T.mrk (nt1 T w st e) e ((nx4 (nx3 (nx2 (nx1 w e) e) e) e).famMask == 0) by simp [nt5, hk5]]
       exact left_put (by omega) hL.tk hrest2 _)
    | (rw [show nx5 (nx4 (nx3 (nx2 (nx1 w e) e) e) e) e = { (nx4 (nx3 (nx2 (nx1 w e) e) e) e) with colMask := max (nx4 (nx3 (nx2 (nx1 w e) e) e) e).colMask e.ts } by simp [nx5, hk4], show nt5 T (nx4 (nx3 (nx2 (nx1 w e) e) e) e) (nt1 T w st e) e = T.mrk (nt1 T w st e) e (bif (nx4 (nx3 (nx2 (nx1 w e) e) e) e).colMask == 0 then decide ((nx4 (nx3 (nx2 (nx1 w e) e) e) e).famMask < e.ts) else false) by simp [nt5, hk4]]
       exact left_put (by omega) hL.tk hrest2 _)
    | (rw [show nx5 (nx4 (nx3 (nx2 (nx1 w e) e) e) e) e = verW (nx4 (nx3 (nx2 (nx1 w e) e) e) e) e by simp [nx5, hk4, hk5], show nt5 T (nx4 (nx3 (nx2 (nx1 w e) e) e) e) (nt1 T w st e) e = verT T (nx4 (nx3 (nx2 (nx1 w e) e) e) e) (nt1 T w st e) by simp [nt5, hk4, hk5]]
       exact ⟨by omega, hL.walk, hL.tk, hrest2⟩)
end Go.Proofs.Ytijhkfhflpmajaa
namespace Go.Sx
variable {α : Type}
def atL [Inhabited α] (l : List α) (i : Nat) : α := l.getD i default
def swapL [Inhabited α] (l : List α) (i j : Nat) : List α := (l.set i (atL l j)).set j (atL l i)
def swapN [Inhabited α] (l : List α) (p q : Nat → Nat) : Nat → List α
  | 0 => l
  | n + 1 => swapL (swapN l p q n) (p n) (q n)
theorem swapL_length [Inhabited α] (l : List α) (i j : Nat) : (swapL l i j).length = l.length := by simp [swapL]
theorem swapN_length [Inhabited α] (l : List α) (p q : Nat → Nat) (n : Nat) : (swapN l p q n).length = l.length := by
  induction n with
  | zero => rfl
  | succ n ih => simp [swapN, swapL_length, ih]
theorem atL_pre [Inhabited α] (p : List α) (x : α) (s : List α) : atL (p ++ x :: s) p.length = x := by
  simp [atL, List.getD]
theorem atL_of [Inhabited α] {l p s : List α} {x : α} {i : Nat} (h : l = p ++ x :: s) (hi : i = p.length) : atL l i = x := by subst h hi; exact atL_pre p x s
theorem swapL_mid [Inhabited α] (p : List α) (x : α) (q : List α) (y : α) (s : List α) :
    swapL (p ++ x :: (q ++ y :: s)) p.length (p.length + 1 + q.length) = p ++ y :: (q ++ x :: s) := by
  have h1 : atL (p ++ x :: (q ++ y :: s)) (p.length + 1 + q.length) = y :=
    atL_of (p := p ++ x :: q) (s := s) (by simp) (by simp; omega)
  have e1 : p.length + 1 + q.length - p.length = q.length + 1 := by omega
  have e2 : q.length - q.length = 0 := by omega
  rw [swapL, atL_pre, h1, List.set_append_right _ _ (Nat.le_refl _), Nat.sub_self, List.set_cons_zero, List.set_append_right _ _ (by omega), e1, List.set_cons_succ, List.set_append_right _ _ (Nat.le_refl _), e2, List.set_cons_zero]
theorem swapL_down [Inhabited α] (p : List α) (x : α) (q : List α) (y : α) (s : List α) :
    swapL (p ++ x :: (q ++ y :: s)) (p.length + 1 + q.length) p.length = p ++ y :: (q ++ x :: s) := by
  have h1 : atL (p ++ x :: (q ++ y :: s)) (p.length + 1 + q.length) = y :=
    atL_of (p := p ++ x :: q) (s := s) (by simp) (by simp; omega)
  have e1 : p.length + 1 + q.length - p.length = q.length + 1 := by omega
  have e2 : q.length - q.length = 0 := by omega
  rw [swapL, atL_pre, h1, List.set_append_right _ _ (by omega : p.length ≤ p.length + 1 + q.length), e1, List.set_cons_succ, List.set_append_right _ _ (Nat.le_refl _), List.set_append_right _ _ (Nat.le_refl _), Nat.sub_self, Nat.sub_self, List.set_cons_zero, List.set_cons_zero]
theorem concat_of {l : List α} {n : Nat} (h : l.length = n + 1) : ∃ c y, l = c ++ [y] ∧ c.length = n := by
  rcases List.eq_nil_or_concat l with h0 | ⟨c, y, rfl⟩
  · subst h0; simp at h
  · exact ⟨c, y, by simp, by simpa using h⟩
theorem swapN_up [Inhabited α] (p : List α) (x : α) : ∀ (n : Nat) (B s : List α), B.length = n →
    swapN (p ++ x :: (B ++ s)) (fun i => p.length + i) (fun i => p.length + i + 1) n = p ++ (B ++ x :: s) := by
  intro n
  induction n with
  | zero => intro B s h; have : B = [] := List.length_eq_zero_iff.1 h; subst this; simp [swapN]
  | succ n ih =>
    intro B s h
    obtain ⟨c, y, rfl, hc⟩ := concat_of h
    have h2 := ih c (y :: s) hc
    rw [swapN]
    have e : (p ++ x :: (c ++ [y] ++ s)) = p ++ x :: (c ++ y :: s) := by simp
    rw [e, h2]
    have := swapL_mid (p ++ c) x [] y s
    simp only [List.length_append, List.length_nil, Nat.add_zero, List.nil_append, List.append_assoc, hc] at this
    rw [this]
    simp
theorem swapN_down [Inhabited α] (p : List α) (x : α) : ∀ (n : Nat) (B s : List α), B.length = n →
    swapN (p ++ (B ++ x :: s)) (fun i => p.length + n - i) (fun i => p.length + n - i - 1) n = p ++ x :: (B ++ s) := by
  suffices h : ∀ (n k : Nat) (C B s : List α), B.length = k → C.length = n →
      swapN (p ++ (C ++ B ++ x :: s)) (fun i => p.length + (n + k) - i) (fun i => p.length + (n + k) - i - 1) k = p ++ (C ++ x :: (B ++ s)) by
    intro n B s hB
    have := h 0 n [] B s hB rfl
    simpa using this
  intro n k
  induction k generalizing n with
  | zero => intro C B s h hc; have : B = [] := List.length_eq_zero_iff.1 h; subst this; simp [swapN]
  | succ k ih =>
    intro C B s h hc
    cases B with
    | nil => simp at h
    | cons y B =>
      have h2 := ih (n + 1) (C ++ [y]) B s (by simpa using h) (by simp [hc])
      have e1 : n + 1 + k = n + (k + 1) := by omega
      rw [e1] at h2
      rw [swapN]
      have e : (p ++ (C ++ y :: B ++ x :: s)) = p ++ (C ++ [y] ++ B ++ x :: s) := by simp
      rw [e, h2]
      have := swapL_down (p ++ C) y [] x (B ++ s)
      simp only [List.length_append, List.length_nil, Nat.add_zero, List.nil_append, List.append_assoc, hc] at this
      have e3 : p.length + (n + (k + 1)) - k = p.length + n + 1 := by omega
      have e4 : p.length + (n + (k + 1)) - k - 1 = p.length + n := by omega
      rw [e4, e3]
      simp only [List.append_assoc, List.cons_append, List.nil_append] at this ⊢
      rw [this]
theorem swapN_range [Inhabited α] (p : List α) : ∀ (n : Nat) (X m Y s : List α), X.length = n → Y.length = n →
    swapN (p ++ (X ++ (m ++ (Y ++ s)))) (fun i => p.length + i) (fun i => p.length + n + m.length + i) n = p ++ (Y ++ (m ++ (X ++ s))) := by
  suffices h : ∀ (n : Nat) (b : Nat) (X m Y s : List α), X.length = n → Y.length = n → b = p.length + n + m.length →
    swapN (p ++ (X ++ (m ++ (Y ++ s)))) (fun i => p.length + i) (fun i => b + i) n = p ++ (Y ++ (m ++ (X ++ s))) by
    intro n X m Y s hx hy; exact h n _ X m Y s hx hy rfl
  intro n
  induction n with
  | zero =>
    intro b X m Y s hx hy _
    have : X = [] := List.length_eq_zero_iff.1 hx
    have : Y = [] := List.length_eq_zero_iff.1 hy
    subst_vars; simp [swapN]
  | succ n ih =>
    intro b X m Y s hx hy hb
    obtain ⟨c, x, rfl, hc⟩ := concat_of hx
    obtain ⟨d, y, rfl, hd⟩ := concat_of hy
    have h2 := ih b c (x :: m) d (y :: s) hc hd (by simp; omega)
    rw [swapN]
    have e : (p ++ (c ++ [x] ++ (m ++ (d ++ [y] ++ s)))) = p ++ (c ++ (x :: m ++ (d ++ y :: s))) := by simp
    rw [e, h2]
    have := swapL_mid (p ++ d) x (m ++ c) y s
    have e4 : (p ++ d).length = p.length + n := by simp [hd]
    have e5 : (p ++ d).length + 1 + (m ++ c).length = b + n := by simp [hd, hc]; omega
    rw [e5, e4] at this
    simp only [List.append_assoc, List.cons_append, List.nil_append] at this ⊢
    rw [this]
def bsL (f : Nat → Bool) (i j : Nat) : Nat := if h : i < j then (if f ((i + j) / 2) then bsL f ((i + j) / 2 + 1) j else bsL f i ((i + j) / 2)) else i
termination_by j - i
decreasing_by all_goals omega
theorem bsL_step (f : Nat → Bool) {i j : Nat} (h : i < j) : bsL f i j = if f ((i + j) / 2) then bsL f ((i + j) / 2 + 1) j else bsL f i ((i + j) / 2) := by
  rw [bsL, dif_pos h]
theorem bsL_done (f : Nat → Bool) {i j : Nat} (h : ¬ i < j) : bsL f i j = i := by rw [bsL, dif_neg h]
theorem bsL_spec (f : Nat → Bool) : ∀ (k i j : Nat), j - i ≤ k → i ≤ j →
    i ≤ bsL f i j ∧ bsL f i j ≤ j ∧ (i < bsL f i j → f (bsL f i j - 1) = true) ∧ (bsL f i j < j → f (bsL f i j) = false) := by
  intro k
  induction k with
  | zero => intro i j h1 h2; rw [bsL_done f (by omega)]; refine ⟨Nat.le_refl _, h2, fun h => absurd h (by omega), fun h => absurd h (by omega)⟩
  | succ k ih =>
    intro i j h1 h2
    by_cases hij : i < j
    · rw [bsL_step f hij]
      cases hf : f ((i + j) / 2) with
      | true =>
        simp only [if_true]
        obtain ⟨a, b, c, d⟩ := ih ((i + j) / 2 + 1) j (by omega) (by omega)
        refine ⟨by omega, b, fun h => ?_, d⟩
        by_cases e : (i + j) / 2 + 1 < bsL f ((i + j) / 2 + 1) j
        · exact c e
        · have : bsL f ((i + j) / 2 + 1) j - 1 = (i + j) / 2 := by omega
          rw [this]; exact hf
      | false =>
        simp only [Bool.false_eq_true, if_false]
        obtain ⟨a, b, c, d⟩ := ih i ((i + j) / 2) (by omega) (by omega)
        refine ⟨a, by omega, c, fun h => ?_⟩
        by_cases e : bsL f i ((i + j) / 2) < (i + j) / 2
        · exact d e
        · have : bsL f i ((i + j) / 2) = (i + j) / 2 := by omega
          rw [this]; exact hf
    · rw [bsL_done f hij]; refine ⟨Nat.le_refl _, h2, fun h => absurd h (by omega), fun h => absurd h (by omega)⟩
def rotL [Inhabited α] : Nat → List α → Nat → Nat → Nat → List α
  | 0, l, _, _, _ => l
  | c + 1, l, m, i, j =>
    if i = j then swapN l (fun k => m - i + k) (fun k => m + k) i
    else if i > j then rotL c (swapN l (fun k => m - i + k) (fun k => m + k) j) m (i - j) j
    else rotL c (swapN l (fun k => m - i + k) (fun k => m + j - i + k) i) m i (j - i)
theorem rotL_length [Inhabited α] : ∀ (c : Nat) (l : List α) (m i j : Nat), (rotL c l m i j).length = l.length := by
  intro c
  induction c with
  | zero => intros; rfl
  | succ c ih =>
    intro l m i j; rw [rotL]; repeat' split
    all_goals simp [swapN_length, ih]
theorem split_at {l : List α} {n k : Nat} (h : l.length = n) (hk : k ≤ n) : ∃ a b, l = a ++ b ∧ a.length = k ∧ b.length = n - k :=
  ⟨l.take k, l.drop k, (List.take_append_drop k l).symm, by simp; omega, by simp; omega⟩
theorem rotL_ok [Inhabited α] : ∀ (c : Nat) (p A B s : List α) (m : Nat), A.length + B.length ≤ c → 0 < A.length → 0 < B.length → m = p.length + A.length →
    rotL c (p ++ (A ++ (B ++ s))) m A.length B.length = p ++ (B ++ (A ++ s)) := by
  intro c
  induction c with
  | zero => intro p A B s m h h1 _ _; omega
  | succ c ih =>
    intro p A B s m h h1 h2 hm
    rw [rotL]
    split
    · rename_i he
      have := swapN_range p A.length A [] B s rfl he.symm
      simp only [List.nil_append, List.length_nil, Nat.add_zero] at this
      have e : m - A.length = p.length := by omega
      rw [e, hm]; exact this
    · rename_i hne
      split
      · rename_i hgt
        obtain ⟨A1, A2, rfl, hA1, hA2⟩ := split_at (l := A) (k := B.length) rfl (by omega)
        have := swapN_range p B.length A1 A2 B s hA1 rfl
        have e : m - (A1 ++ A2).length = p.length := by omega
        rw [e]
        have e2 : p.length + B.length + A2.length = m := by simp [hA1] at hm; omega
        rw [e2] at this
        simp only [List.append_assoc] at this ⊢
        rw [this]
        have h3 := ih (p ++ B) A2 A1 s m (by simp at h; omega) (by omega) (by omega) (by simp at hm ⊢; omega)
        simp only [List.append_assoc] at h3
        have e6 : (A1 ++ A2).length - B.length = A2.length := by simp; omega
        rw [e6, ← hA1, h3]
      · rename_i hlt
        obtain ⟨B1, B2, hB, hB1, hB2⟩ := split_at (l := B) (k := B.length - A.length) rfl (by omega)
        have hB3 : B2.length = A.length := by omega
        have := swapN_range p A.length A B1 B2 s rfl hB3
        have e : m - A.length = p.length := by omega
        have e2 : p.length + A.length + B1.length = m + B.length - A.length := by omega
        rw [e2] at this
        have h3 := ih p B2 B1 (A ++ s) m (by omega) (by omega) (by omega) (by omega)
        rw [e, ← hB1, ← hB3]
        rw [hB3, hB, List.append_assoc]
        rw [hB] at this
        rw [this, ← hB3, h3, List.append_assoc]
def insL [Inhabited α] (lt : α → α → Bool) (l : List α) (a : Nat) : Nat → List α
  | 0 => l
  | j + 1 => if a < j + 1 ∧ lt (atL l (j + 1)) (atL l j) = true then insL lt (swapL l (j + 1) j) a j else l
theorem insL_length [Inhabited α] (lt : α → α → Bool) (a : Nat) : ∀ (j : Nat) (l : List α), (insL lt l a j).length = l.length := by
  intro j
  induction j with
  | zero => intros; rfl
  | succ j ih => intro l; rw [insL]; split <;> simp [ih, swapL_length]
def insN [Inhabited α] (lt : α → α → Bool) (l : List α) (a : Nat) : Nat → List α
  | 0 => l
  | k + 1 => insL lt (insN lt l a k) a (a + 1 + k)
theorem insN_length [Inhabited α] (lt : α → α → Bool) (a k : Nat) (l : List α) : (insN lt l a k).length = l.length := by
  induction k with
  | zero => rfl
  | succ k ih => simp [insN, insL_length, ih]
def symL [Inhabited α] (lt : α → α → Bool) : Nat → List α → Nat → Nat → Nat → List α
  | 0, l, _, _, _ => l
  | c + 1, l, a, m, b =>
    if m - a = 1 then swapN l (fun i => a + i) (fun i => a + i + 1) (bsL (fun h => lt (atL l h) (atL l a)) m b - 1 - a)
    else if b - m = 1 then swapN l (fun i => m - i) (fun i => m - i - 1) (m - bsL (fun h => !lt (atL l m) (atL l h)) a m)
    else
      let mid := (a + b) / 2
      let n := mid + m
      let st := bsL (fun c => !lt (atL l (n - 1 - c)) (atL l c)) (if m > mid then n - b else a) (if m > mid then mid else m)
      let en := n - st
      let l1 := if st < m ∧ m < en then rotL (en - st) l m (m - st) (en - m) else l
      let l2 := if a < st ∧ st < mid then symL lt c l1 a st mid else l1
      if mid < en ∧ en < b then symL lt c l2 mid en b else l2
theorem symL_length [Inhabited α] (lt : α → α → Bool) : ∀ (c : Nat) (l : List α) (a m b : Nat), (symL lt c l a m b).length = l.length := by
  intro c
  induction c with
  | zero => intros; rfl
  | succ c ih =>
    intro l a m b
    rw [symL]
    split
    · simp [swapN_length]
    · split
      · simp [swapN_length]
      · dsimp only
        repeat' split
        all_goals simp [ih, rotL_length]
structure Ord (lt : α → α → Bool) : Prop where
  tr : ∀ x y z, lt y x = false → lt z y = false → lt z x = false
  asym : ∀ x y, lt x y = true → lt y x = false
def Srt (lt : α → α → Bool) (l : List α) : Prop := l.Pairwise fun x y => lt y x = false
variable {lt : α → α → Bool}
theorem Srt.take {l : List α} (h : Srt lt l) (n : Nat) : Srt lt (l.take n) := List.Pairwise.sublist (List.take_sublist _ _) h
theorem Srt.drop {l : List α} (h : Srt lt l) (n : Nat) : Srt lt (l.drop n) := List.Pairwise.sublist (List.drop_sublist _ _) h
theorem Srt.left {a b : List α} (h : Srt lt (a ++ b)) : Srt lt a := (List.pairwise_append.1 h).1
theorem Srt.right {a b : List α} (h : Srt lt (a ++ b)) : Srt lt b := (List.pairwise_append.1 h).2.1
theorem Srt.across {a b : List α} (h : Srt lt (a ++ b)) : ∀ x ∈ a, ∀ y ∈ b, lt y x = false := (List.pairwise_append.1 h).2.2
theorem srt_of_across {a b : List α} (ha : Srt lt a) (hb : Srt lt b) (h : ∀ x ∈ a, ∀ y ∈ b, lt y x = false) : Srt lt (a ++ b) :=
  List.pairwise_append.2 ⟨ha, hb, h⟩
theorem across_of (O : Ord lt) {a b : List α} (ha : Srt lt a) (hb : Srt lt b)
    (h : ∀ a' x y b', a = a' ++ [x] → b = y :: b' → lt y x = false) : ∀ x ∈ a, ∀ y ∈ b, lt y x = false := by
  intro x hx y hy
  rcases List.eq_nil_or_concat a with h0 | ⟨a', z, rfl⟩
  · subst h0; cases hx
  · cases b with
    | nil => cases hy
    | cons w b' =>
      have hzw := h a' z w b' (by simp) rfl
      have h1 : x = z ∨ lt z x = false := by
        simp at hx
        rcases hx with hx | hx
        · right; simp at ha; exact ha.across x hx z (by simp)
        · exact .inl hx
      have h2 : y = w ∨ lt y w = false := by
        cases hy with
        | head => exact .inl rfl
        | tail _ hy => right; exact (List.pairwise_cons.1 hb).1 y hy
      have h3 : lt w x = false := by rcases h1 with rfl | h1; exact hzw; exact O.tr _ _ _ h1 hzw
      rcases h2 with rfl | h2; exact h3; exact O.tr _ _ _ h3 h2
theorem insL_ok [Inhabited α] (O : Ord lt) : ∀ (j : Nat) (p A : List α) (x : α) (s : List α), j = p.length + A.length → Srt lt A →
    ∃ A1 A2, A = A1 ++ A2 ∧ insL lt (p ++ (A ++ x :: s)) p.length j = p ++ (A1 ++ x :: (A2 ++ s)) ∧ (∀ y ∈ A2, lt x y = true) ∧ (∀ A' y, A1 = A' ++ [y] → lt x y = false) := by
  intro j
  induction j with
  | zero =>
    intro p A x s hj _
    have h1 : A = [] := List.length_eq_zero_iff.1 (by omega)
    subst h1
    exact ⟨[], [], rfl, by simp [insL], by simp, by simp⟩
  | succ j ih =>
    intro p A x s hj hA
    rcases List.eq_nil_or_concat A with h0 | ⟨A', y, hAe⟩
    · subst h0
      refine ⟨[], [], rfl, ?_, by simp, by simp⟩
      rw [insL, if_neg (by simp at hj; omega)]; simp
    · have hAe : A = A' ++ [y] := by simpa using hAe
      subst hAe
      have e1 : atL (p ++ (A' ++ [y] ++ x :: s)) (j + 1) = x := atL_of (p := p ++ A' ++ [y]) (s := s) (by simp) (by simp at hj ⊢; omega)
      have e2 : atL (p ++ (A' ++ [y] ++ x :: s)) j = y := atL_of (p := p ++ A') (s := x :: s) (by simp) (by simp at hj ⊢; omega)
      rw [insL, e1, e2]
      by_cases hlt : lt x y = true
      · rw [if_pos ⟨by simp at hj; omega, hlt⟩]
        have h3 := swapL_down (p ++ A') y [] x s
        have e4 : (p ++ A').length = j := by simp at hj ⊢; omega
        rw [e4] at h3
        simp only [List.length_nil, Nat.add_zero, List.nil_append, List.append_assoc, List.cons_append] at h3 ⊢
        rw [h3]
        obtain ⟨A1, A2, hs, he, hb, hc⟩ := ih p A' x (y :: s) (by simp at e4; omega) hA.left
        refine ⟨A1, A2 ++ [y], by simp [hs], by rw [he]; simp, ?_, hc⟩
        intro z hz
        simp at hz
        rcases hz with hz | rfl
        · exact hb z hz
        · exact hlt
      · rw [if_neg (by simp [hlt])]
        refine ⟨A' ++ [y], [], by simp, by simp, by simp, ?_⟩
        intro A2 z hz
        have := List.append_inj_right' hz rfl
        simp at this; subst this
        simpa using hlt
theorem insL_srt [Inhabited α] (O : Ord lt) (p A : List α) (x : α) (s : List α) (j : Nat) (hj : j = p.length + A.length) (hA : Srt lt A) :
    ∃ C, insL lt (p ++ (A ++ x :: s)) p.length j = p ++ (C ++ s) ∧ C.Perm (A ++ [x]) ∧ Srt lt C := by
  obtain ⟨A1, A2, rfl, he, hb, hc⟩ := insL_ok O j p A x s hj hA
  refine ⟨A1 ++ x :: A2, by rw [he]; simp, ?_, ?_⟩
  · rw [List.append_assoc]
    refine List.Perm.append_left _ ?_
    have := (List.perm_append_comm (l₁ := [x]) (l₂ := A2))
    simpa using this
  · refine srt_of_across hA.left (List.pairwise_cons.2 ⟨fun y hy => O.asym _ _ (hb y hy), hA.right⟩) ?_
    have h1 := across_of O (a := A1) (b := [x]) hA.left (by simp [Srt]) (fun a' z y b' h1 h2 => by
      simp at h2; obtain ⟨rfl, _⟩ := h2; exact hc a' z h1)
    intro z hz w hw
    rcases List.mem_cons.1 hw with rfl | hw
    · exact h1 z hz _ (by simp)
    · exact hA.across z hz w hw
theorem insN_ok [Inhabited α] (O : Ord lt) : ∀ (k : Nat) (p Y s : List α), Y.length = k + 1 →
    ∃ C, insN lt (p ++ (Y ++ s)) p.length k = p ++ (C ++ s) ∧ C.Perm Y ∧ Srt lt C := by
  intro k
  induction k with
  | zero =>
    intro p Y s h
    refine ⟨Y, rfl, List.Perm.refl _, ?_⟩
    match Y, h with
    | [y], _ => simp [Srt]
  | succ k ih =>
    intro p Y s h
    obtain ⟨c, y, rfl, hc⟩ := concat_of h
    obtain ⟨C, h1, h2, h3⟩ := ih p c (y :: s) hc
    have h4 := h2.length_eq
    obtain ⟨D, h5, h6, h7⟩ := insL_srt O p C y s (p.length + 1 + k) (by omega) h3
    refine ⟨D, ?_, h6.trans (h2.append_right _), h7⟩
    rw [insN]
    have e : p ++ (c ++ [y] ++ s) = p ++ (c ++ y :: s) := by simp
    rw [e, h1, h5]
theorem symL_ok [Inhabited α] (O : Ord lt) : ∀ (c : Nat) (p A B s : List α) (m b : Nat), m = p.length + A.length → b = m + B.length →
    A.length + B.length ≤ c → 0 < A.length → 0 < B.length → Srt lt A → Srt lt B →
    ∃ C, symL lt c (p ++ (A ++ (B ++ s))) p.length m b = p ++ (C ++ s) ∧ C.Perm (A ++ B) ∧ Srt lt C := by
  intro c
  induction c with
  | zero => intro p A B s m b _ _ h h1; omega
  | succ c ih =>
    intro p A B s m b hm hb hc hA0 hB0 hA hB
    rw [symL]
    by_cases c1 : m - p.length = 1
    · rw [if_pos c1]
      match A, hA, hA0, hm, hc, c1 with
      | [], _, h, _, _, _ => simp at h
      | _ :: _ :: _, _, _, hm, _, c1 => simp at hm; omega
      | [x], hA, hA0, hm, hc, c1 =>
      simp only [List.cons_append, List.nil_append, List.length_cons, List.length_nil] at hm ⊢
      have ex : atL (p ++ x :: (B ++ s)) p.length = x := atL_pre _ _ _
      rw [ex]
      obtain ⟨g1, g2, g3, g4⟩ := bsL_spec (fun h => lt (atL (p ++ x :: (B ++ s)) h) x) (b - m) m b (Nat.le_refl _) (by omega)
      generalize hi : bsL (fun h => lt (atL (p ++ x :: (B ++ s)) h) x) m b = i at *
      obtain ⟨B1, B2, rfl, hB1, hB2⟩ := split_at (l := B) (k := i - m) rfl (by omega)
      have h1 := swapN_up p x (i - 1 - p.length) B1 (B2 ++ s) (by omega)
      simp only [List.append_assoc] at h1 ⊢ ex g3 g4
      rw [h1]
      refine ⟨B1 ++ x :: B2, by simp, by simp, ?_⟩
      refine srt_of_across hB.left (List.pairwise_cons.2 ⟨?_, hB.right⟩) ?_
      · have h2 := across_of O (a := [x]) (b := B2) (by simp [Srt]) hB.right (fun a' z y b' e1 e2 => by
          have e1 : a' = [] ∧ z = x := by
            cases a' with
            | nil => simp at e1; exact ⟨rfl, e1.symm⟩
            | cons _ _ => simp at e1
          obtain ⟨rfl, rfl⟩ := e1
          subst e2
          have e3 := g4 (by simp at hB2 hb ⊢; omega)
          rwa [atL_of (p := p ++ z :: B1) (s := b' ++ s) (x := y) (by simp) (by simp; omega)] at e3)
        intro y hy
        exact h2 x (by simp) y hy
      · have h2 := across_of O (a := B1) (b := [x]) hB.left (by simp [Srt]) (fun a' z y b' e1 e2 => by
          simp at e2; obtain ⟨rfl, _⟩ := e2
          subst e1
          have e3 := g3 (by simp at hB1; omega)
          rw [atL_of (p := p ++ x :: a') (s := B2 ++ s) (x := z) (by simp) (by simp at hB1 ⊢; omega)] at e3
          exact O.asym _ _ e3)
        intro z hz w hw
        rcases List.mem_cons.1 hw with rfl | hw
        · exact h2 z hz _ (by simp)
        · exact hB.across z hz w hw
    · rw [if_neg c1]
      by_cases c2 : b - m = 1
      · rw [if_pos c2]
        match B, hB, hB0, hb, hc with
        | [], _, h, _, _ => simp at h
        | _ :: _ :: _, _, _, hb, _ => simp at hb; omega
        | [x], hB, hB0, hb, hc =>
        simp only [List.cons_append, List.nil_append, List.length_cons, List.length_nil] at hb ⊢
        have ex : atL (p ++ (A ++ x :: s)) m = x := atL_of (p := p ++ A) (s := s) (by simp) (by simp; omega)
        rw [ex]
        obtain ⟨g1, g2, g3, g4⟩ := bsL_spec (fun h => !lt x (atL (p ++ (A ++ x :: s)) h)) (m - p.length) p.length m (Nat.le_refl _) (by omega)
        generalize hi : bsL (fun h => !lt x (atL (p ++ (A ++ x :: s)) h)) p.length m = i at *
        obtain ⟨A1, A2, rfl, hA1, hA2⟩ := split_at (l := A) (k := i - p.length) rfl (by omega)
        have h1 := swapN_down (p ++ A1) x (m - i) A2 s (by omega)
        have e5 : (p ++ A1).length + (m - i) = m := by simp; omega
        rw [e5] at h1
        simp only [List.append_assoc] at h1 ⊢ ex g3 g4
        rw [h1]
        refine ⟨A1 ++ x :: A2, by simp, ?_, ?_⟩
        · refine List.Perm.append_left _ ?_
          have := (List.perm_append_comm (l₁ := [x]) (l₂ := A2))
          simpa using this
        refine srt_of_across hA.left (List.pairwise_cons.2 ⟨?_, hA.right⟩) ?_
        · have h2 := across_of O (a := [x]) (b := A2) (by simp [Srt]) hA.right (fun a' z y b' e1 e2 => by
            have e1 : a' = [] ∧ z = x := by
              cases a' with
              | nil => simp at e1; exact ⟨rfl, e1.symm⟩
              | cons _ _ => simp at e1
            obtain ⟨rfl, rfl⟩ := e1
            subst e2
            have e3 := g4 (by simp at hA2 hm ⊢; omega)
            rw [atL_of (p := p ++ A1) (s := b' ++ z :: s) (x := y) (by simp) (by simp; omega)] at e3
            simp at e3
            exact O.asym _ _ e3)
          intro y hy
          exact h2 x (by simp) y hy
        · have h2 := across_of O (a := A1) (b := [x]) hA.left (by simp [Srt]) (fun a' z y b' e1 e2 => by
            simp at e2; obtain ⟨rfl, _⟩ := e2
            subst e1
            have e3 := g3 (by simp at hA1; omega)
            rw [atL_of (p := p ++ a') (s := A2 ++ x :: s) (x := z) (by simp) (by simp at hA1 ⊢; omega)] at e3
            simpa using e3)
          intro z hz w hw
          rcases List.mem_cons.1 hw with rfl | hw
          · exact h2 z hz _ (by simp)
          · exact hA.across z hz w hw
      · rw [if_neg c2]
        dsimp only
        generalize hl : p ++ (A ++ (B ++ s)) = l
        generalize hmid : (p.length + b) / 2 = mid
        generalize hs0 : (if m > mid then mid + m - b else p.length) = s0
        generalize hr0 : (if m > mid then mid else m) = r0
        have hA2' : 2 ≤ A.length := by omega
        have hB2' : 2 ≤ B.length := by omega
        have hsr : s0 ≤ r0 ∧ p.length ≤ s0 ∧ r0 ≤ mid ∧ r0 ≤ m ∧ mid + m - s0 ≤ b ∧ m ≤ mid + m - r0 ∧ mid ≤ mid + m - r0 := by
          subst hs0 hr0; split <;> omega
        obtain ⟨g1, g2, g3, g4⟩ := bsL_spec (fun c => !lt (atL l (mid + m - 1 - c)) (atL l c)) (r0 - s0) s0 r0 (Nat.le_refl _) hsr.1
        generalize hst : bsL (fun c => !lt (atL l (mid + m - 1 - c)) (atL l c)) s0 r0 = st at *
        generalize hen : mid + m - st = en
        obtain ⟨A1, A2, rfl, hA1, hA2⟩ := split_at (l := A) (k := st - p.length) rfl (by omega)
        obtain ⟨B1, B2, rfl, hB1, hB2⟩ := split_at (l := B) (k := en - m) rfl (by omega)
        have h1 : (if st < m ∧ m < en then rotL (en - st) l m (m - st) (en - m) else l) = p ++ (A1 ++ (B1 ++ (A2 ++ (B2 ++ s)))) := by
          split
          · have := rotL_ok (en - st) (p ++ A1) A2 B1 (B2 ++ s) m (by omega) (by omega) (by omega) (by simp; omega)
            have e1 : A2.length = m - st := by omega
            have e2 : B1.length = en - m := by omega
            rw [e1, e2] at this
            rw [← hl]
            simp only [List.append_assoc] at this ⊢
            exact this
          · rw [← hl]
            have : A2 = [] ∨ B1 = [] := by
              by_cases h : A2.length = 0
              · exact .inl (List.length_eq_zero_iff.1 h)
              · exact .inr (List.length_eq_zero_iff.1 (by omega))
            rcases this with rfl | rfl <;> simp
        rw [h1]
        have hA12 : ∀ x ∈ A1, ∀ y ∈ A2, lt y x = false := hA.across
        have hB12 : ∀ x ∈ B1, ∀ y ∈ B2, lt y x = false := hB.across
        have hAB : ∀ x ∈ A1, ∀ y ∈ B2, lt y x = false := across_of O hA.left hB.right (fun a' x y b' e1 e2 => by
          subst e1 e2
          by_cases hlt : s0 < st
          · have e3 := g3 hlt
            have e4 : mid + m - 1 - (st - 1) = en := by omega
            simp only [e4] at e3
            rw [atL_of (l := l) (i := st - 1) (p := p ++ a') (s := A2 ++ (B1 ++ y :: b' ++ s)) (x := x) (by rw [← hl]; simp) (by simp at hA1 ⊢; omega),
              atL_of (l := l) (i := en) (p := p ++ (a' ++ [x] ++ A2) ++ B1) (s := b' ++ s) (x := y) (by rw [← hl]; simp) (by simp at hm hB1 ⊢; omega)] at e3
            simpa using e3
          · simp at hA1 hB2 hb hm hB1
            subst hs0
            split at hlt <;> omega)
        have hBA : ∀ x ∈ B1, ∀ y ∈ A2, lt y x = false := across_of O hB.left hA.right (fun a' x y b' e1 e2 => by
          subst e1 e2
          by_cases hlt : st < r0
          · have e3 := g4 hlt
            have e4 : mid + m - 1 - st = en - 1 := by omega
            simp only [e4] at e3
            rw [atL_of (l := l) (i := st) (p := p ++ A1) (s := b' ++ (a' ++ [x] ++ B2 ++ s)) (x := y) (by rw [← hl]; simp) (by simp at hA1 ⊢; omega),
              atL_of (l := l) (i := en - 1) (p := p ++ (A1 ++ y :: b') ++ a') (s := B2 ++ s) (x := x) (by rw [← hl]; simp) (by simp at hm hB1 ⊢; omega)] at e3
            simp at e3
            exact O.asym _ _ e3
          · exfalso
            simp only [List.length_append, List.length_cons, List.length_nil] at hA2 hB1 hA1 hm hb
            subst hr0
            split at hlt <;> omega)
        have h2 : ∃ C1, (if p.length < st ∧ st < mid then symL lt c (p ++ (A1 ++ (B1 ++ (A2 ++ (B2 ++ s))))) p.length st mid else p ++ (A1 ++ (B1 ++ (A2 ++ (B2 ++ s))))) = p ++ (C1 ++ (A2 ++ (B2 ++ s))) ∧ C1.Perm (A1 ++ B1) ∧ Srt lt C1 := by
          split
          · exact ih p A1 B1 (A2 ++ (B2 ++ s)) st mid (by omega) (by omega) (by omega) (by omega) (by omega) hA.left hB.left
          · refine ⟨A1 ++ B1, by simp, List.Perm.refl _, ?_⟩
            have : A1 = [] ∨ B1 = [] := by
              by_cases h : A1.length = 0
              · exact .inl (List.length_eq_zero_iff.1 h)
              · exact .inr (List.length_eq_zero_iff.1 (by omega))
            rcases this with rfl | rfl
            · simpa using hB.left
            · simpa using hA.left
        obtain ⟨C1, h2, p1, s1⟩ := h2
        rw [h2]
        have lC1 := p1.length_eq
        have h3 : ∃ C2, (if mid < en ∧ en < b then symL lt c (p ++ (C1 ++ (A2 ++ (B2 ++ s)))) mid en b else p ++ (C1 ++ (A2 ++ (B2 ++ s)))) = p ++ (C1 ++ (C2 ++ s)) ∧ C2.Perm (A2 ++ B2) ∧ Srt lt C2 := by
          split
          · have := ih (p ++ C1) A2 B2 s en b (by simp at lC1 ⊢; omega) (by omega) (by omega) (by omega) (by omega) hA.right hB.right
            have e1 : (p ++ C1).length = mid := by simp at lC1 ⊢; omega
            rw [e1] at this
            simpa using this
          · refine ⟨A2 ++ B2, by simp, List.Perm.refl _, ?_⟩
            have : A2 = [] ∨ B2 = [] := by
              by_cases h : A2.length = 0
              · exact .inl (List.length_eq_zero_iff.1 h)
              · exact .inr (List.length_eq_zero_iff.1 (by simp at hb hm; omega))
            rcases this with rfl | rfl
            · simpa using hB.right
            · simpa using hA.right
        obtain ⟨C2, h3, p2, s2⟩ := h3
        rw [h3]
        refine ⟨C1 ++ C2, by simp, ?_, srt_of_across s1 s2 ?_⟩
        · refine (p1.append p2).trans ?_
          simp only [List.append_assoc]
          refine List.Perm.append_left _ ?_
          rw [← List.append_assoc, ← List.append_assoc]
          exact List.Perm.append_right _ List.perm_append_comm
        · intro x hx y hy
          have hx := p1.mem_iff.1 hx
          have hy := p2.mem_iff.1 hy
          rcases List.mem_append.1 hx with hx | hx <;> rcases List.mem_append.1 hy with hy | hy
          · exact hA12 x hx y hy
          · exact hAB x hx y hy
          · exact hBA x hx y hy
          · exact hB12 x hx y hy
def blkL [Inhabited α] (lt : α → α → Bool) (l : List α) : Nat → List α
  | 0 => l
  | t + 1 => insN lt (blkL lt l t) (20 * t) 19
def mrgL [Inhabited α] (lt : α → α → Bool) (l : List α) (bs : Nat) : Nat → List α
  | 0 => l
  | t + 1 => symL lt (2 * bs) (mrgL lt l bs t) (2 * bs * t) (2 * bs * t + bs) (2 * bs * t + 2 * bs)
def passL [Inhabited α] (lt : α → α → Bool) (l : List α) (bs n : Nat) : List α :=
  if 2 * bs * (n / (2 * bs)) + bs < n then symL lt (n - 2 * bs * (n / (2 * bs))) (mrgL lt l bs (n / (2 * bs))) (2 * bs * (n / (2 * bs))) (2 * bs * (n / (2 * bs)) + bs) n
  else mrgL lt l bs (n / (2 * bs))
def outL [Inhabited α] (lt : α → α → Bool) (n : Nat) : Nat → List α → Nat → List α
  | 0, l, _ => l
  | c + 1, l, bs => if bs < n then outL lt n c (passL lt l bs n) (2 * bs) else l
def stabL [Inhabited α] (lt : α → α → Bool) (l : List α) : List α :=
  outL lt l.length l.length (insN lt (blkL lt l (l.length / 20)) (20 * (l.length / 20)) (l.length - 20 * (l.length / 20) - 1)) 20
def Pcs (lt : α → α → Bool) (bs : Nat) (l : List α) : Prop := ∀ q, Srt lt ((l.drop (q * bs)).take bs)
theorem srt_nil : Srt lt ([] : List α) := List.Pairwise.nil
theorem blkL_ok [Inhabited α] (O : Ord lt) (l : List α) : ∀ t, 20 * t ≤ l.length → ∃ X, blkL lt l t = X ++ l.drop (20 * t) ∧ X.Perm (l.take (20 * t)) ∧ ∀ q, q < t → Srt lt ((X.drop (q * 20)).take 20) := by
  intro t
  induction t with
  | zero => intro _; exact ⟨[], by simp [blkL], by simp, by intro q hq; omega⟩
  | succ t ih =>
    intro h
    obtain ⟨X, h1, h2, h3⟩ := ih (by omega)
    have hX : X.length = 20 * t := by have := h2.length_eq; simp at this; omega
    obtain ⟨Y, R, hY, hY1, hY2⟩ := split_at (l := l.drop (20 * t)) (n := l.length - 20 * t) (k := 20) (by simp) (by omega)
    obtain ⟨C, h4, h5, h6⟩ := insN_ok O 19 X Y R hY1
    have hC : C.length = 20 := by rw [h5.length_eq, hY1]
    have hR : l.drop (20 * (t + 1)) = R := by
      have : l.drop (20 * (t + 1)) = (l.drop (20 * t)).drop 20 := by rw [List.drop_drop]; congr 1
      rw [this, hY, ← hY1]; simp
    have hT : l.take (20 * (t + 1)) = l.take (20 * t) ++ Y := by
      have : 20 * (t + 1) = 20 * t + 20 := by omega
      rw [this, List.take_add, hY, ← hY1]; simp
    refine ⟨X ++ C, ?_, ?_, ?_⟩
    · rw [blkL, h1, hY, ← hX, h4, hR]; simp
    · rw [hT]; exact h2.append h5
    · intro q hq
      by_cases hqt : q < t
      · have e1 : ((X ++ C).drop (q * 20)).take 20 = (X.drop (q * 20)).take 20 := by
          rw [List.drop_append_of_le_length (by omega), List.take_append_of_le_length (by simp; omega)]
        rw [e1]; exact h3 q hqt
      · have e1 : ((X ++ C).drop (q * 20)).take 20 = C := by
          have : q * 20 = X.length := by omega
          rw [this]; simp [List.take_of_length_le, hC]
        rw [e1]; exact h6
theorem mrgL_ok [Inhabited α] (O : Ord lt) (l : List α) (bs : Nat) (h0 : 0 < bs) (hP : Pcs lt bs l) : ∀ t, 2 * bs * t ≤ l.length →
    ∃ X, mrgL lt l bs t = X ++ l.drop (2 * bs * t) ∧ X.Perm (l.take (2 * bs * t)) ∧ ∀ q, q < t → Srt lt ((X.drop (q * (2 * bs))).take (2 * bs)) := by
  intro t
  induction t with
  | zero => intro _; exact ⟨[], by simp [mrgL], by simp, by intro q hq; omega⟩
  | succ t ih =>
    intro h
    have e0 : 2 * bs * (t + 1) = 2 * bs * t + 2 * bs := by rw [Nat.mul_add, Nat.mul_one]
    obtain ⟨X, h1, h2, h3⟩ := ih (by omega)
    have hX : X.length = 2 * bs * t := by have := h2.length_eq; simp at this; omega
    obtain ⟨A, R, hA, hA1, hA2⟩ := split_at (l := l.drop (2 * bs * t)) (n := l.length - 2 * bs * t) (k := bs) (by simp) (by omega)
    obtain ⟨B, S, rfl, hB1, hB2⟩ := split_at (l := R) (k := bs) rfl (by omega)
    have sA : Srt lt A := by
      have := hP (2 * t)
      have e : 2 * t * bs = 2 * bs * t := by rw [Nat.mul_assoc, Nat.mul_comm t, Nat.mul_assoc]
      rw [e, hA, ← hA1] at this; simpa using this
    have sB : Srt lt B := by
      have := hP (2 * t + 1)
      have e : (2 * t + 1) * bs = 2 * bs * t + bs := by rw [Nat.add_mul, Nat.one_mul, Nat.mul_assoc, Nat.mul_comm t, Nat.mul_assoc]
      rw [e, ← List.drop_drop, hA] at this
      have e2 : (A ++ (B ++ S)).drop bs = B ++ S := by rw [← hA1]; simp
      rw [e2, ← hB1] at this; simpa using this
    obtain ⟨C, h4, h5, h6⟩ := symL_ok O (2 * bs) X A B S (2 * bs * t + bs) (2 * bs * t + 2 * bs) (by omega) (by omega) (by omega) (by omega) (by omega) sA sB
    have hC : C.length = 2 * bs := by rw [h5.length_eq]; simp; omega
    have hR : l.drop (2 * bs * (t + 1)) = S := by
      rw [e0, ← List.drop_drop, hA]
      have : 2 * bs = (A ++ B).length := by simp; omega
      rw [this, ← List.append_assoc]; simp
    have hT : l.take (2 * bs * (t + 1)) = l.take (2 * bs * t) ++ (A ++ B) := by
      have e9 : (A ++ (B ++ S)).take (2 * bs) = A ++ B := by
        rw [← List.append_assoc, show 2 * bs = (A ++ B).length by simp only [List.length_append]; omega]; exact List.take_left
      rw [e0, List.take_add, hA, e9]
    refine ⟨X ++ C, ?_, ?_, ?_⟩
    · rw [mrgL, h1, hA]
      have := h4
      rw [hX] at this
      rw [this, hR]; simp
    · rw [hT]; exact h2.append h5
    · intro q hq
      by_cases hqt : q < t
      · have e9 : q * (2 * bs) + 2 * bs ≤ 2 * bs * t := by
          have : (q + 1) * (2 * bs) ≤ t * (2 * bs) := Nat.mul_le_mul_right _ hqt
          rw [Nat.add_mul, Nat.one_mul, Nat.mul_comm t] at this; exact this
        have e1 : ((X ++ C).drop (q * (2 * bs))).take (2 * bs) = (X.drop (q * (2 * bs))).take (2 * bs) := by
          rw [List.drop_append_of_le_length (by omega), List.take_append_of_le_length (by simp; omega)]
        rw [e1]; exact h3 q hqt
      · have e1 : ((X ++ C).drop (q * (2 * bs))).take (2 * bs) = C := by
          have : q * (2 * bs) = X.length := by rw [hX, Nat.mul_comm]; congr 1; omega
          rw [this]; simp [List.take_of_length_le, hC]
        rw [e1]; exact h6
theorem pcs_of (bs t : Nat) (X C : List α) (hX : X.length = bs * t) (hC : C.length ≤ bs) (h1 : ∀ q, q < t → Srt lt ((X.drop (q * bs)).take bs)) (h2 : Srt lt C) : Pcs lt bs (X ++ C) := by
  intro q
  by_cases hqt : q < t
  · have e9 : q * bs + bs ≤ bs * t := by
      have : (q + 1) * bs ≤ t * bs := Nat.mul_le_mul_right _ hqt
      rw [Nat.add_mul, Nat.one_mul, Nat.mul_comm t] at this; exact this
    have e1 : ((X ++ C).drop (q * bs)).take bs = (X.drop (q * bs)).take bs := by
      rw [List.drop_append_of_le_length (by omega), List.take_append_of_le_length (by simp; omega)]
    rw [e1]; exact h1 q hqt
  · have : X.length ≤ q * bs := by rw [hX, Nat.mul_comm]; exact Nat.mul_le_mul_right _ (by omega)
    rw [List.drop_append, List.drop_eq_nil_of_le this, List.nil_append]
    exact (h2.drop _).take _
theorem passL_ok [Inhabited α] (O : Ord lt) (l : List α) (bs : Nat) (h0 : 0 < bs) (hP : Pcs lt bs l) : Pcs lt (2 * bs) (passL lt l bs l.length) ∧ (passL lt l bs l.length).Perm l := by
  have hd := Nat.div_add_mod l.length (2 * bs)
  have hlt := Nat.mod_lt l.length (show 2 * bs > 0 by omega)
  obtain ⟨X, h1, h2, h3⟩ := mrgL_ok O l bs h0 hP (l.length / (2 * bs)) (by omega)
  generalize ht : l.length / (2 * bs) = t at *
  have hX : X.length = 2 * bs * t := by have := h2.length_eq; simp at this; omega
  have eA : l.take (2 * bs * t) ++ l.drop (2 * bs * t) = l := List.take_append_drop _ _
  rw [passL, ht]
  split
  · rename_i hlt2
    obtain ⟨A, B, hA, hA1, hA2⟩ := split_at (l := l.drop (2 * bs * t)) (n := l.length - 2 * bs * t) (k := bs) (by simp) (by omega)
    have sA : Srt lt A := by
      have := hP (2 * t)
      have e : 2 * t * bs = 2 * bs * t := by rw [Nat.mul_assoc, Nat.mul_comm t, Nat.mul_assoc]
      rw [e, hA, ← hA1] at this; simpa using this
    have sB : Srt lt B := by
      have := hP (2 * t + 1)
      have e : (2 * t + 1) * bs = 2 * bs * t + bs := by rw [Nat.add_mul, Nat.one_mul, Nat.mul_assoc, Nat.mul_comm t, Nat.mul_assoc]
      rw [e, ← List.drop_drop, hA] at this
      have e2 : (A ++ B).drop bs = B := by rw [← hA1]; simp
      rw [e2, List.take_of_length_le (by omega)] at this; exact this
    obtain ⟨C, h4, h5, h6⟩ := symL_ok O (l.length - 2 * bs * t) X A B [] (2 * bs * t + bs) l.length (by omega) (by omega) (by omega) (by omega) (by omega) sA sB
    rw [hX] at h4
    simp only [List.append_nil] at h4
    rw [h1, hA, h4]
    have hC := h5.length_eq
    simp at hC
    refine ⟨pcs_of (2 * bs) t X C hX (by omega) h3 h6, ?_⟩
    have := h2.append h5
    rw [← hA, eA] at this; exact this
  · rename_i hge
    rw [h1]
    refine ⟨pcs_of (2 * bs) t X _ hX (by simp; omega) h3 ?_, ?_⟩
    · have := hP (2 * t)
      have e : 2 * t * bs = 2 * bs * t := by rw [Nat.mul_assoc, Nat.mul_comm t, Nat.mul_assoc]
      rw [e, List.take_of_length_le (by simp; omega)] at this; exact this
    · have := h2.append_right (l.drop (2 * bs * t))
      rw [eA] at this; exact this
theorem outL_ok [Inhabited α] (O : Ord lt) (n : Nat) : ∀ (c : Nat) (l : List α) (bs : Nat), l.length = n → 0 < bs → n ≤ bs + c → Pcs lt bs l → Srt lt (outL lt n c l bs) ∧ (outL lt n c l bs).Perm l := by
  have fin : ∀ (l : List α) (bs : Nat), l.length = n → n ≤ bs → Pcs lt bs l → Srt lt l := by
    intro l bs hl hb hP
    have := hP 0
    simp [List.take_of_length_le (show l.length ≤ bs by omega)] at this; exact this
  intro c
  induction c with
  | zero => intro l bs hl h0 hn hP; rw [outL]; exact ⟨fin l bs hl hn hP, List.Perm.refl _⟩
  | succ c ih =>
    intro l bs hl h0 hn hP
    rw [outL]
    split
    · have h1 := passL_ok O l bs h0 hP
      rw [hl] at h1
      have h2 := ih (passL lt l bs n) (2 * bs) (by rw [h1.2.length_eq, hl]) (by omega) (by omega) h1.1
      exact ⟨h2.1, h2.2.trans h1.2⟩
    · exact ⟨fin l bs hl (by omega) hP, List.Perm.refl _⟩
theorem stabL_ok [Inhabited α] (O : Ord lt) (l : List α) : Srt lt (stabL lt l) ∧ (stabL lt l).Perm l := by
  have hd := Nat.div_add_mod l.length 20
  have hlt := Nat.mod_lt l.length (show 20 > 0 by omega)
  obtain ⟨X, h1, h2, h3⟩ := blkL_ok O l (l.length / 20) (by omega)
  rw [stabL]
  generalize ht : l.length / 20 = t at *
  have hX : X.length = 20 * t := by have := h2.length_eq; simp at this; omega
  have eA : l.take (20 * t) ++ l.drop (20 * t) = l := List.take_append_drop _ _
  have key : ∃ C, insN lt (blkL lt l t) (20 * t) (l.length - 20 * t - 1) = X ++ C ∧ C.Perm (l.drop (20 * t)) ∧ Srt lt C := by
    rw [h1]
    by_cases hz : l.length - 20 * t = 0
    · have e : l.drop (20 * t) = [] := List.drop_eq_nil_of_le (by omega)
      rw [e, hz]
      exact ⟨[], by simp [insN], List.Perm.refl _, srt_nil⟩
    · obtain ⟨C, h4, h5, h6⟩ := insN_ok O (l.length - 20 * t - 1) X (l.drop (20 * t)) [] (by simp; omega)
      rw [hX] at h4
      exact ⟨C, by simpa using h4, h5, h6⟩
  obtain ⟨C, h4, h5, h6⟩ := key
  rw [h4]
  have hC := h5.length_eq
  simp at hC
  have hp : (X ++ C).Perm l := by have := h2.append h5; rwa [eA] at this
  have h7 := outL_ok O l.length l.length (X ++ C) 20 hp.length_eq (by omega) (by omega) (pcs_of 20 t X C hX (by omega) h3 h6)
  exact ⟨h7.1, h7.2.trans hp⟩
end Go.Sx
namespace Go.Rt
open Go Go.Sx
attribute [go_sem] List.getD_cons_zero List.getD_cons_succ
def ltE (x y : Ent) : Bool := decide (compE x y < 0)
def seqOf (acc : List Ent) (s : Int) : Option Ent := acc.find? fun x => x.seq == s
def ddE : List Ent → List Ent → Option (List Ent)
  | acc, [] => some acc
  | acc, e :: l => match seqOf acc e.seq with
    | some x => if x = e then ddE acc l else none
    | none => ddE (acc ++ [e]) l
def sortedE (l : List Ent) : List Ent × Int :=
  match ddE [] l with
  | some m => (stabL ltE m, 0)
  | none => ([], 31)
def badsE (s : List Fml) : List Ent → Int
  | [] => 0
  | e :: l => if checkedE s e ≠ 0 then checkedE s e else badsE s l
def prepE (s : List Fml) (clock : Int) (times : List Int) (k : Int) (l : List Ent) : List Ent × Int :=
  if boundsE s clock times k ≠ 0 then ([], boundsE s clock times k) else if badsE s l ≠ 0 then ([], badsE s l) else sortedE l
def squashE (s : List Fml) (clock : Int) (major : Bool) (low : Int) (l : List Ent) : List Ent × Int :=
  if (prepE s clock [low] 1 l).2 ≠ 0 then ([], (prepE s clock [low] 1 l).2) else ((keptOf s clock major low (prepE s clock [low] 1 l).1).out, 0)
def readE (s : List Fml) (clock t n : Int) (l : List Ent) : List Ent × Int :=
  if (prepE s clock [t] n l).2 ≠ 0 then ([], (prepE s clock [t] n l).2) else ((shownOf s clock t n (prepE s clock [t] n l).1).out, 0)
def visE (s : List Fml) (clock : Int) (l : List Ent) : List Ent × Int := readE s clock 1099511627776 16 l
def topE (s : List Fml) (clock : Int) (l : List Ent) : Int × Int :=
  if (prepE s clock [] 1 l).2 ≠ 0 then (0, (prepE s clock [] 1 l).2) else (topOf s clock (prepE s clock [] 1 l).1, 0)
def seqPair (e : Ent) : AV × AV := (.int .i64 e.seq, entAV e)
theorem findK_seq (acc : List Ent) (s : Int) : findK (acc.map seqPair) (.int .i64 s) = (seqOf acc s).map entAV := by
  induction acc with
  | nil => rfl
  | cons a acc ih =>
    simp only [List.map_cons, seqPair, findK, keySame, seqOf, List.find?_cons]
    by_cases h : a.seq = s
    · subst h; simp
    · have h1 : (s == a.seq) = false := by simpa using Ne.symm h
      have h2 : (a.seq == s) = false := by simpa using h
      rw [h1, h2]
      exact ih
theorem setK_seq (acc : List Ent) (e : Ent) (h : seqOf acc e.seq = none) : setK (acc.map seqPair) (.int .i64 e.seq) (entAV e) = (acc ++ [e]).map seqPair := by
  induction acc with
  | nil => rfl
  | cons a acc ih =>
    simp only [seqOf, List.find?_cons] at h
    cases h2 : (a.seq == e.seq) with
    | true => rw [h2] at h; simp at h
    | false =>
      rw [h2] at h
      have h1 : (e.seq == a.seq) = false := by rw [← h2]; exact Bool.beq_comm
      simp only [List.map_cons, seqPair, setK, keySame, h1, cond_false, List.cons_append]
      congr 1
      exact ih h
theorem ddE_length : ∀ (l acc m : List Ent), ddE acc l = some m → m.length ≤ acc.length + l.length := by
  intro l
  induction l with
  | nil => intro acc m h; simp only [ddE, Option.some.injEq] at h; subst h; simp
  | cons e l ih =>
    intro acc m h
    rw [ddE] at h
    split at h
    · split at h
      · have := ih _ _ h; simp; omega
      · simp at h
    · have := ih _ _ h; simp at this ⊢; omega
theorem ddE_sub : ∀ (l acc m : List Ent), ddE acc l = some m → ∀ x ∈ m, x ∈ acc ∨ x ∈ l := by
  intro l
  induction l with
  | nil => intro acc m h x hx; simp only [ddE, Option.some.injEq] at h; subst h; exact .inl hx
  | cons e l ih =>
    intro acc m h x hx
    rw [ddE] at h
    split at h
    · split at h
      · rcases ih _ _ h x hx with h | h
        · exact .inl h
        · exact .inr (List.mem_cons_of_mem _ h)
      · simp at h
    · rcases ih _ _ h x hx with h | h
      · rcases List.mem_append.1 h with h | h
        · exact .inl h
        · right; simp at h; simp [h]
      · exact .inr (List.mem_cons_of_mem _ h)
theorem stabL_length (l : List Ent) : (stabL ltE l).length = l.length := by
  have h1 : ∀ t, (blkL ltE l t).length = l.length := fun t => by
    induction t with
    | zero => rfl
    | succ t ih => rw [blkL, insN_length, ih]
  have h2 : ∀ (l : List Ent) bs t, (mrgL ltE l bs t).length = l.length := fun l bs t => by
    induction t with
    | zero => rfl
    | succ t ih => rw [mrgL, symL_length, ih]
  have h3 : ∀ (n c : Nat) (l : List Ent) (bs : Nat), (outL ltE n c l bs).length = l.length := fun n c => by
    induction c with
    | zero => intros; rfl
    | succ c ih =>
      intro l bs; rw [outL]; split
      · rw [ih, passL]; split <;> simp [symL_length, h2]
      · rfl
  rw [stabL, h3, insN_length, h1]
end Go.Rt
namespace Go.Proofs.Ytijhkfhflpmajaa
open Go Go.Sx Go.Rt Go.Proofs
def cmpAV : AV := .fn (.func 69) [] []
structure SortOf (α : Type) where
  f : α → AV
  cmp : α → α → Int
  sz : ∀ a, (f a).sz = 7
  agg : ∀ a, (f a).isAgg = true
  mem : ∀ a, (f a).memOK = true
  str : ∀ a, strip true (f a) = f a
def SortOf.lt {α : Type} (S : SortOf α) (a b : α) : Bool := decide (S.cmp a b < 0)
theorem SortOf.nthE {α : Type} [Inhabited α] (S : SortOf α) (L : List α) (j : Nat) (h : j < L.length) : nth (L.map S.f) j = S.f (atL L j) := nth_map S.f L j h
theorem SortOf.lenE {α : Type} (S : SortOf α) (L : List α) : (L.map S.f).length = L.length := List.length_map _
def CmpC {α : Type} (S : SortOf α) (k : Nat) (H : Heap) : Prop := ∀ H' n a b, (∀ j, j ≠ k → H' j = H j) → Ret Try.prog 69 [S.f a, S.f b] H' n (.int .i64 (S.cmp a b)) H' n
theorem CmpC.put {α : Type} {S : SortOf α} {k : Nat} {H : Heap} (h : CmpC S k H) (o : Option AObj) : CmpC S k (H.put k o) := fun H' n a b hj => h H' n a b fun j hne => (hj j hne).trans (Heap.put_ne _ _ hne)
theorem put_id {H : Heap} {k : Nat} {o : Option AObj} (h : H k = o) : H.put k o = H := by
  funext j; simp only [Heap.put]; split
  · rename_i e; rw [e, h]
  · rfl
theorem wAdd {a b : Nat} (h : a + b < 4611686018427387904) : IntKind.i64.wrap ((a : Int) + (b : Int)) = ((a + b : Nat) : Int) := by rw [w64 (by omega) (by omega)]; omega
theorem wSub {a b : Nat} (h : b ≤ a) (h' : a < 4611686018427387904) : IntKind.i64.wrap ((a : Int) - (b : Int)) = ((a - b : Nat) : Int) := by rw [w64 (by omega) (by omega)]; omega
theorem wSub1 {a : Nat} (h : 1 ≤ a) (h' : a < 4611686018427387904) : IntKind.i64.wrap ((a : Int) - 1) = ((a - 1 : Nat) : Int) := by rw [w64 (by omega) (by omega)]; omega
theorem CmpC.s {α : Type} {S : SortOf α} {k : Nat} {H : Heap} (h : CmpC S k H) (H' : Heap) (n : Nat) (a b : α) (hj : ∀ j, j ≠ k → H' j = H j) : Ret Try.prog 69 [strip true (S.f a), strip true (S.f b)] H' n (.int .i64 (S.cmp a b)) H' n := by
  rw [S.str, S.str]; exact h H' n a b hj
def entS : SortOf Ent := ⟨entAV, compE, entAV_sz, entAV_isAgg, entAV_memOK, fun _ => rfl⟩
theorem cmpC_ent (k : Nat) (H : Heap) : CmpC entS k H := fun H' n a b _ => c_cell_Compare a b _ _
theorem entS_lt : entS.lt = ltE := rfl
theorem c_slices_swapRange {α : Type} [Inhabited α] (S : SortOf α) (k ver : Nat) (l : List α) (len : Nat) (hll : l.length = len) (a b m : Nat) (H : Heap) (n : Nat) (hk : k < n) (hH : H k = some (.arr ver 7 (l.map S.f))) (ha : a + m ≤ len) (hmb : b + m ≤ len) (hl : len < 2305843009213693952) :
    Ret Try.prog 103 [.osl k ver 0 len, .int .i64 a, .int .i64 b, .int .i64 m, cmpAV] H n (.tup []) (H.put k (some (.arr ver 7 ((swapN l (fun i => a + i) (fun i => b + i) m).map S.f)))) n := by
  refine acalls_of_awp Try.func103 rfl Try.ntmps103 (congrArg Array.toList Try.results103) (by simp) ?_
  simp only [go_sem]
  refine awp_rq zs [0, 1, 2, 3, 10] ?_
  refine awp_block ?_
  refine awp_loop (fun T' H' n' => ∃ i : Nat, i ≤ m ∧ T' = tl [(0, .osl k ver 0 len), (1, .int .i64 a), (2, .int .i64 b), (3, .int .i64 m), (10, .int .i64 i)] ∧ H' = H.put k (some (.arr ver 7 ((swapN l (fun i => a + i) (fun i => b + i) i).map S.f))) ∧ n' = n) (fun T' _ _ => m - iv (T' 10)) ?_ ?_
  ·skip
   exact ⟨0, by omega, rfl, by rw [swapN, put_id hH], rfl⟩
  intro T1 H1 n1
  rintro ⟨i, hi, rfl, rfl, rfl⟩
  refine awp_seq_k fun K1 hK1 => ?_
  refine awp_rq zs [0, 1, 2, 3, 10, 13] ?_
  refine awp_cnd (fun hb => ?_) (fun hb => ?_)
  ·skip
   have hlt : i < m := by simpa using hb
   have wa := wAdd (a := a) (b := i) (by omega)
   have wb := wAdd (a := b) (b := i) (by omega)
   have hai : a + i < len := by omega
   have hbi : b + i < len := by omega
   refine awp_skip ?_
   try simp only [go_sem, seval]
   refine hK1 _ _ _ ?_
   first | clear hK1 K1 | skip
   refine awp_seq_k fun K2 hK2 => ?_
   refine awp_block ?_
   refine awp_drw1 rfl zs [0, 1, 2, 3, 10] [.m, .m, .m, .q, .m, .m, .m, .q, .m, .m, .m, .q, .q, .q, .m, .m, .m, .q, .q, .q, .q, .w [7], .q, .w []] (by kernel_rfl) (fun _ _ _ _ _ h => h) fun K hK => ?_
   try simp only [go_sem, seval, wa, wb, Int.toNat_natCast, S.nthE, swapN_length, List.length_set, hll, hai, hbi, ← List.map_set, List.length_map, S.sz, S.agg, S.mem]
   repeat refine peel ?_
   refine hK _ _ _ ?_; clear hK K
   try simp only [go_sem, seval]
   refine hK2 _ _ _ ?_
   first | clear hK2 K2 | skip
   refine awp_reg1 zs [0, 1, 2, 3, 10] fun K hK => ?_
   try simp only [go_sem, seval]
   repeat refine peel ?_
   refine hK _ _ _ ?_; clear hK K
   try simp only [go_sem, seval]
   refine ⟨⟨i + 1, by omega, by rw [w1 (by omega)], by rw [swapN, swapL]⟩, by rw [w1 (by omega)]; simp; omega⟩
  ·skip
   have hge : i = m := by simp at hb; omega
   refine awp_exit ?_
   try simp only [go_sem, seval]
   rw [hge]
theorem c_slices_rotate {α : Type} [Inhabited α] (S : SortOf α) (k ver : Nat) (l : List α) (len : Nat) (hll : l.length = len) (a m b : Nat) (H : Heap) (n : Nat) (hk : k < n) (hH : H k = some (.arr ver 7 (l.map S.f))) (ha : a < m) (hmb : m < b) (hbl : b ≤ len) (hl : len < 2305843009213693952) :
    Ret Try.prog 100 [.osl k ver 0 len, .int .i64 a, .int .i64 m, .int .i64 b, cmpAV] H n (.tup []) (H.put k (some (.arr ver 7 ((rotL (b - a) l m (m - a) (b - m)).map S.f)))) n := by
  have v1 := wSub (a := m) (b := a) (by omega) (by omega)
  have v2 := wSub (a := b) (b := m) (by omega) (by omega)
  refine acalls_of_awp Try.func100 rfl Try.ntmps100 (congrArg Array.toList Try.results100) (by simp) ?_
  simp only [go_sem]
  refine awp_reg zs [0, 2, 3, 4, 10] fun K hK => ?_
  try simp only [go_sem, seval, v1]
  repeat refine peel ?_
  refine hK _ _ _ ?_; clear hK K
  refine awp_reg zs [0, 2, 4, 10, 11] fun K hK => ?_
  try simp only [go_sem, seval, v2]
  repeat refine peel ?_
  refine hK _ _ _ ?_; clear hK K
  refine awp_seq_k fun K1 hK1 => ?_
  refine awp_block ?_
  refine awp_loop (fun T' H' n' => ∃ (c i j : Nat) (l' : List α), i + j ≤ c ∧ 0 < i ∧ 0 < j ∧ i ≤ m ∧ m + j ≤ len ∧ l'.length = len ∧ T' = tl [(0, .osl k ver 0 len), (2, .int .i64 m), (4, cmpAV), (10, .int .i64 i), (11, .int .i64 j)] ∧ H' = H.put k (some (.arr ver 7 (l'.map S.f))) ∧ n' = n ∧ rotL c l' m i j = rotL (b - a) l m (m - a) (b - m)) (fun T' _ _ => iv (T' 10) + iv (T' 11)) ?_ ?_
  ·skip
   exact ⟨b - a, m - a, b - m, l, by omega, by omega, by omega, by omega, by omega, hll, rfl, by rw [put_id hH], rfl, rfl⟩
  intro T1 H1 n1
  rintro ⟨c, i, j, l', hc, hi, hj, him, hjl, hll', rfl, rfl, rfl, hr⟩
  refine awp_seq_k fun K2 hK2 => ?_
  refine awp_rq zs [0, 2, 4, 10, 11, 20] ?_
  refine awp_cnd (fun hb => ?_) (fun hb => ?_)
  ·skip
   have hne : i ≠ j := by simp at hb; omega
   have v3 := wSub (a := m) (b := i) (by omega) (by omega)
   have v4 := wAdd (a := m) (b := j) (by omega)
   have v5 := wSub (a := m + j) (b := i) (by omega) (by omega)
   obtain ⟨c', rfl⟩ : ∃ c', c = c' + 1 := ⟨c - 1, by omega⟩
   rw [rotL, if_neg hne] at hr
   refine awp_skip ?_
   try simp only [go_sem, seval]
   refine hK2 _ _ _ ?_
   first | clear hK2 K2 | skip
   refine awp_block ?_
   refine awp_rq zs [0, 2, 4, 10, 11, 23] ?_
   refine awp_cnd (fun hb => ?_) (fun hb => ?_)
   ·skip
    have hgt : i > j := by simp at hb; omega
    rw [if_pos hgt] at hr
    have v6 := wSub (a := i) (b := j) (by omega) (by omega)
    refine awp_reg zs [0, 2, 4, 10, 11] fun K hK => ?_
    try simp only [go_sem, seval, v3]
    repeat refine peel ?_
    refine callK_use Try.func103 rfl rfl rfl ((c_slices_swapRange S k ver l' len hll' (m - i) m j _ _ hk (Heap.put_same _ _ _) (by omega) (by omega) hl)) ?_
    try simp only [go_sem, seval, v3]
    repeat refine peel ?_
    refine hK _ _ _ ?_; clear hK K
    refine awp_reg1 zs [0, 2, 4, 10, 11] fun K hK => ?_
    try simp only [go_sem, seval, v6]
    repeat refine peel ?_
    refine hK _ _ _ ?_; clear hK K
    try simp only [go_sem, seval]
    first
    | exact ⟨⟨c', i - j, j, _, by omega, by omega, by omega, by omega, by omega, by rw [swapN_length, hll'], rfl, rfl, hr⟩, by simp only [iv_int, Int.toNat_natCast]; omega⟩
    | exact ⟨⟨c', i, j - i, _, by omega, by omega, by omega, by omega, by omega, by rw [swapN_length, hll'], rfl, rfl, hr⟩, by simp only [iv_int, Int.toNat_natCast]; omega⟩
   ·skip
    have hgt : ¬ i > j := by simp at hb; omega
    rw [if_neg hgt] at hr
    have v6 := wSub (a := j) (b := i) (by omega) (by omega)
    refine awp_reg zs [0, 2, 4, 10, 11] fun K hK => ?_
    try simp only [go_sem, seval, v3, v4, v5]
    repeat refine peel ?_
    refine callK_use Try.func103 rfl rfl rfl ((c_slices_swapRange S k ver l' len hll' (m - i) (m + j - i) i _ _ hk (Heap.put_same _ _ _) (by omega) (by omega) hl)) ?_
    try simp only [go_sem, seval, v3, v4, v5]
    repeat refine peel ?_
    refine hK _ _ _ ?_; clear hK K
    refine awp_reg1 zs [0, 2, 4, 10, 11] fun K hK => ?_
    try simp only [go_sem, seval, v6]
    repeat refine peel ?_
    refine hK _ _ _ ?_; clear hK K
    try simp only [go_sem, seval]
    first
    | exact ⟨⟨c', i - j, j, _, by omega, by omega, by omega, by omega, by omega, by rw [swapN_length, hll'], rfl, rfl, hr⟩, by simp only [iv_int, Int.toNat_natCast]; omega⟩
    | exact ⟨⟨c', i, j - i, _, by omega, by omega, by omega, by omega, by omega, by rw [swapN_length, hll'], rfl, rfl, hr⟩, by simp only [iv_int, Int.toNat_natCast]; omega⟩
  ·skip
   have heq : i = j := by simp at hb; omega
   have v3 := wSub (a := m) (b := i) (by omega) (by omega)
   obtain ⟨c', rfl⟩ : ∃ c', c = c' + 1 := ⟨c - 1, by omega⟩
   rw [rotL, if_pos heq] at hr
   refine awp_exit ?_
   try simp only [go_sem, seval]
   refine hK1 _ _ _ ?_
   first | clear hK1 K1 | skip
   refine awp_reg1 zs [] fun K hK => ?_
   try simp only [go_sem, seval, v3]
   repeat refine peel ?_
   refine callK_use Try.func103 rfl rfl rfl ((c_slices_swapRange S k ver l' len hll' (m - i) m i _ _ hk (Heap.put_same _ _ _) (by omega) (by omega) hl)) ?_
   try simp only [go_sem, seval, v3]
   repeat refine peel ?_
   refine hK _ _ _ ?_; clear hK K
   try simp only [go_sem, seval]
   try simp only [go_sem, seval]
   rw [← hr]
theorem c_slices_insertion {α : Type} [Inhabited α] (S : SortOf α) (k ver : Nat) (l : List α) (len : Nat) (hll : l.length = len) (a b : Nat) (H : Heap) (n : Nat) (hk : k < n) (hH : H k = some (.arr ver 7 (l.map S.f))) (hc : CmpC S k H) (hbl : b ≤ len) (hal : a ≤ len) (hl : len < 2305843009213693952) :
    Ret Try.prog 86 [.osl k ver 0 len, .int .i64 a, .int .i64 b, cmpAV] H n (.tup []) (H.put k (some (.arr ver 7 ((insN S.lt l a (b - a - 1)).map S.f)))) n := by
  have v1 : IntKind.i64.wrap ((a : Int) + 1) = ((a + 1 + 0 : Nat) : Int) := by rw [w1 (by omega)]
  refine acalls_of_awp Try.func86 rfl Try.ntmps86 (congrArg Array.toList Try.results86) (by simp) ?_
  simp only [go_sem]
  refine awp_reg zs [0, 1, 2, 3, 8] fun K hK => ?_
  try simp only [go_sem, seval, v1]
  repeat refine peel ?_
  refine hK _ _ _ ?_; clear hK K
  refine awp_block ?_
  refine awp_loop (fun T' H' n' => ∃ (i : Nat), i ≤ b - a - 1 ∧ T' = tl [(0, .osl k ver 0 len), (1, .int .i64 a), (2, .int .i64 b), (3, cmpAV), (8, .int .i64 (a + 1 + i : Nat))] ∧ H' = H.put k (some (.arr ver 7 ((insN S.lt l a i).map S.f))) ∧ n' = n) (fun T' _ _ => b - iv (T' 8)) ?_ ?_
  ·skip
   exact ⟨0, by omega, rfl, by rw [insN, put_id hH], rfl⟩
  intro T1 H1 n1
  rintro ⟨i, hi, rfl, rfl, rfl⟩
  refine awp_seq_k fun K1 hK1 => ?_
  refine awp_rq zs [0, 1, 2, 3, 8, 14] ?_
  refine awp_cnd (fun hb => ?_) (fun hb => ?_)
  ·skip
   have hlt : a + 1 + i < b := by simp at hb; omega
   have hgl : (insN S.lt l a i).length = len := by rw [insN_length, hll]
   generalize hg : insN S.lt l a i = l1 at *
   refine awp_skip ?_
   try simp only [go_sem, seval]
   refine hK1 _ _ _ ?_
   first | clear hK1 K1 | skip
   refine awp_seq_k fun K2 hK2 => ?_
   refine awp_block ?_
   refine awp_rq zs [0, 1, 2, 3, 8, 9] ?_
   refine awp_block ?_
   refine awp_loop (fun T' H' n' => ∃ (j : Nat) (l' : List α), j ≤ a + 1 + i ∧ a ≤ j ∧ l'.length = len ∧ T' = tl [(0, .osl k ver 0 len), (1, .int .i64 a), (2, .int .i64 b), (3, cmpAV), (8, .int .i64 (a + 1 + i : Nat)), (9, .int .i64 j)] ∧ H' = H.put k (some (.arr ver 7 (l'.map S.f))) ∧ n' = n1 ∧ insL S.lt l' a j = insL S.lt l1 a (a + 1 + i)) (fun T' _ _ => iv (T' 9)) ?_ ?_
   ·skip
    exact ⟨a + 1 + i, l1, by omega, by omega, hgl, rfl, rfl, rfl, rfl⟩
   intro T1 H1 n1
   rintro ⟨j, l', hj, haj, hll', rfl, rfl, rfl, hr⟩
   refine awp_seq_k fun K3 hK3 => ?_
   have v2 : IntKind.i64.wrap ((j : Int) - 1) = (j : Int) - 1 := w64 (by omega) (by omega)
   have v3 : ((j : Int) - 1).toNat = j - 1 := by omega
   have v4 : j < len := by omega
   have v5 : j - 1 < len := by omega
   refine awp_drw rfl zs [0, 1, 2, 3, 8, 9, 34] [.m, .m, .q, .m, .m, .m, .m, .q, .q, .m, .m, .q, .q, .q, .c, .q, .q] (by kernel_rfl) (fun _ _ _ _ _ h => h) fun K hK => ?_
   try simp only [go_sem, seval, v2, v3, v4, v5, Int.toNat_natCast, S.nthE, hll', S.lenE, S.sz, S.agg, S.mem, cmpAV]
   repeat (first | (refine And.intro ?_ ?_; · first | (intro h9; simp at h9; omega)) | refine peel ?_)
   refine callQG_use Try.func69 rfl rfl rfl (fun _ n => (hc _ n (atL l' j) (atL l' (j - 1)) (by intro jj hjj; simp [Heap.put, hjj]))) ?_
   try simp only [go_sem, seval, v2, v3, v4, v5, Int.toNat_natCast, S.nthE, hll', S.lenE, S.sz, S.agg, S.mem, cmpAV]
   repeat (first | (refine And.intro ?_ ?_; · first | (intro h9; simp at h9; omega)) | refine peel ?_)
   refine hK _ _ _ ?_; clear hK K
   refine awp_cnd (fun hb => ?_) (fun hb => ?_)
   ·skip
    have hc : a < j ∧ S.lt (atL l' j) (atL l' (j - 1)) = true := by cases h9 : decide ((a : Int) < (j : Int)) <;> simp_all [SortOf.lt]
    obtain ⟨j', rfl⟩ : ∃ j', j = j' + 1 := ⟨j - 1, by omega⟩
    simp only [Nat.add_sub_cancel] at hc
    rw [insL, if_pos hc] at hr
    have v6 : IntKind.i64.wrap (((j' + 1 : Nat) : Int) - 1) = (j' : Int) := by rw [w64 (by omega) (by omega)]; omega
    have v7 : j' < len := by omega
    refine awp_skip ?_
    try simp only [go_sem, seval]
    refine hK3 _ _ _ ?_
    first | clear hK3 K3 | skip
    refine awp_seq_k fun K4 hK4 => ?_
    refine awp_block ?_
    refine awp_drw1 rfl zs [0, 1, 2, 3, 8, 9] [.m, .m, .m, .m, .q, .m, .m, .q, .q, .q, .m, .m, .q, .q, .q, .w [4], .q, .w []] (by kernel_rfl) (fun _ _ _ _ _ h => h) fun K hK => ?_
    try simp only [go_sem, seval, v6, v4, v7, Int.toNat_natCast, S.nthE, hll', List.length_set, ← List.map_set, S.lenE, S.sz, S.agg, S.mem]
    repeat refine peel ?_
    refine hK _ _ _ ?_; clear hK K
    try simp only [go_sem, seval]
    refine hK4 _ _ _ ?_
    first | clear hK4 K4 | skip
    refine awp_reg1 zs [0, 1, 2, 3, 8, 9] fun K hK => ?_
    try simp only [go_sem, seval, v6]
    repeat refine peel ?_
    refine hK _ _ _ ?_; clear hK K
    try simp only [go_sem, seval]
    refine ⟨⟨j', _, by omega, by omega, ?_, rfl, rfl, by rw [← hr]; rfl⟩, by simp only [iv_int, Int.toNat_natCast]; omega⟩
    simp [hll']
   ·skip
    have hc : ¬ (a < j ∧ S.lt (atL l' j) (atL l' (j - 1)) = true) := by cases h9 : decide ((a : Int) < (j : Int)) <;> simp_all [SortOf.lt]
    have hr2 : insN S.lt l a (i + 1) = l' := by rw [insN, hg, ← hr]; cases j with | zero => rfl | succ j => (simp only [Nat.add_sub_cancel] at hc; rw [insL, if_neg hc])
    refine awp_exit ?_
    try simp only [go_sem, seval]
    refine hK2 _ _ _ ?_
    first | clear hK2 K2 | skip
    refine awp_reg1 zs [0, 1, 2, 3, 8] fun K hK => ?_
    try simp only [go_sem, seval]
    repeat refine peel ?_
    refine hK _ _ _ ?_; clear hK K
    try simp only [go_sem, seval]
    have v8 : IntKind.i64.wrap (((a + 1 + i : Nat) : Int) + 1) = ((a + 1 + (i + 1) : Nat) : Int) := by rw [w64 (by omega) (by omega)]; omega
    rw [v8]; exact ⟨⟨i + 1, by omega, rfl, by rw [hr2]⟩, by simp only [Int.toNat_natCast]; omega⟩
  ·skip
   have hge : b - a - 1 ≤ i := by simp at hb; omega
   refine awp_exit ?_
   try simp only [go_sem, seval]
   rw [show b - a - 1 = i by omega]
end Go.Proofs.Ytijhkfhflpmajaa