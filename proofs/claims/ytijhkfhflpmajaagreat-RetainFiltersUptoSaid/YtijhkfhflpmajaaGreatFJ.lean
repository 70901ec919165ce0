/- Own layer: walks through the document's answer of layer 3: what is visible, read, left, the top. Of the program; no condition. -/
import Derived.Test.YtijhkfhflpmajaaGreatFG
import Derived.Test.YtijhkfhflpmajaaGreatFM
set_option linter.unusedSimpArgs false
set_option linter.unusedVariables false
namespace Go.Proofs.YtijhkfhflpmajaaGreat
open Go Go.Sx Go.Rt Go.Proofs
structure ROk (s : List Fml) (m : List Ent) : Prop where
  len : m.length ≤ 1000000000
  ttl : ∀ f ∈ s, 0 ≤ f.ttl ∧ f.ttl ≤ 1099511627776
  good : ∀ x ∈ m, goodE s x
theorem ROk.lt {s : List Fml} {m : List Ent} (h : ROk s m) : m.length < 4611686018427387904 := by have := h.len; omega
theorem rOrd_ok2 : ∀ (l m : List Ent), (l.foldl rIns m).length ≤ m.length + l.length ∧ ∀ x ∈ l.foldl rIns m, x ∈ m ∨ x ∈ l
  | [], m => ⟨by simp, fun x hx => .inl hx⟩
  | e :: l, m => by
    obtain ⟨h1, h2⟩ := rOrd_ok2 l (rIns m e)
    have := rIns_len m e
    rw [List.foldl_cons]
    refine ⟨by simp; omega, fun x hx => ?_⟩
    rcases h2 x hx with h | h
    · rcases rIns_mem h with h | h
      · exact .inl h
      · exact .inr (by simp [h])
    · exact .inr (by simp [h])
theorem goodE_z {s : List Fml} {e : Ent} (h : ZChk e ∧ e.fam < s.length) (hf : e.fits) : goodE s e := ⟨h.1.fam.1, h.2, hf, by have := h.1.ts; omega, h.1.ts.2⟩
theorem rReady {s : List Fml} {clock low t vn : Int} {l : List Ent} (hl : l.length ≤ 1000000000) (hf : ∀ e ∈ l, e.fits) (h : rAsked s clock low t vn l = 0) : ROk s (rOrd l) := by
  obtain ⟨h1, h2⟩ := rOrd_ok2 l []
  unfold rAsked at h
  split at h
  · rename_i h9; exact absurd h h9
  · rename_i h9
    split at h
    · exact absurd h (by decide)
    · have hs := z_schema (s := s) (by simpa using h9)
      unfold rChecked at h
      split at h
      · rename_i h8; exact absurd h h8
      · rename_i h8
        have h8 : badsE s l = 0 := by rw [← rChk_bads]; simpa using h8
        refine ⟨by simp at h1; exact Nat.le_trans h1 hl, fun f hf => (hs.2.2 f hf).2.2, fun x hx => ?_⟩
        have hxl : x ∈ l := by rcases h2 x hx with h | h; (cases h); (exact h)
        have := z_checked (z_bads h8 x hxl)
        exact goodE_z ⟨z_chk this.1, this.2⟩ (hf x hxl)
end Go.Proofs.YtijhkfhflpmajaaGreat
namespace Go.Proofs.YtijhkfhflpmajaaGreat
open Go Go.Sx Go.Rt Go.Proofs
set_option maxHeartbeats 4000000 in
theorem c_ref3_fate (s : List Fml) (clock low : Int) (major : Bool) (m : List Ent) (hr : ROk s m) (i : Nat) (hi : i < m.length) (H : Heap) (n : Nat) :
    Ret Tryz.prog 46 [schAV s, .int .i64 clock, .bool major, .int .i64 low, entsAV m, .int .i64 i] H n (.tup [entAV (rFate s clock major low m (m.getD i default)).1, .int .i64 (rFate s clock major low m (m.getD i default)).2]) H n := by
  have hl := hr.len
  have hnth : nth (m.map entAV) i = entAV (m.getD i default) := nth_map entAV m i hi
  have hge : goodE s (m.getD i default) := hr.good _ (by simp [List.getD, List.getElem?_eq_getElem hi])
  have hself : ∀ j, j < m.length → rAbv (m.getD i default) (m.getD j default) = true → (j : Int) ≠ i := by
    intro j hj h h9
    have : j = i := by omega
    subst this
    simp [rAbv] at h
  generalize m.getD i default = e at *
  have hfn := fam_nth s hge.1 hge.2.1
  have hg1 := hge.1
  have hg2 := hge.2.1
  refine Ret.fin ?_
  refine acalls_of_awp Tryz.func46 rfl Tryz.ntmps46 (congrArg Array.toList Tryz.results46) (by simp) ?_
  simp only [go_sem]
  refine awp_rq zs [1, 2, 3, 4, 5, 6, 12] ?_
  refine awp_reg zs [1, 2, 3, 4, 5, 6, 12, 14] fun K hK => ?_
  try simp only [go_sem, seval, Int.toNat_natCast, hnth]
  repeat (first | (refine And.intro ?_ ?_; · first | (simp; omega)) | refine peel ?_)
  refine hK _ _ _ ?_; clear hK K
  refine awp_seq_k fun K1 hK1 => ?_
  refine awp_reg zs [1, 2, 3, 4, 5, 6, 12, 14, 27] fun K hK => ?_
  try simp only [go_sem, seval]
  refine callK_use Tryz.func50 rfl rfl rfl ((c_ref3_version e _ _)) ?_
  try simp only [go_sem, seval]
  refine hK _ _ _ ?_; clear hK K
  refine awp_cnd (fun hb => ?_) (fun hb => ?_)
  ·skip
   have hv : rVer e = false := by simpa using hb
   refine awp_seq_k fun K2 hK2 => ?_
   refine awp_rq zs [2, 3, 4, 5, 12, 14, 15] ?_
   refine awp_block ?_
   refine awp_loop (fun T' H' n' => ∃ (j : Nat), j ≤ m.length ∧ T' = tl [(2, .bool major), (3, .int .i64 low), (4, .sl 7 (m.map entAV)), (5, .int .i64 i), (12, .loc (n + 1) 0 0 0 []), (14, .loc (n + 2) 0 0 0 []), (15, .int .i64 j)] ∧ n + 3 ≤ n' ∧ H' (n + 1) = some (.arr 0 7 [ent0]) ∧ H' (n + 2) = some (.arr 0 7 [entAV e]) ∧ (∀ k, k < n → H' k = H k) ∧ (m.drop j).any (rAbv e) = m.any (rAbv e)) (fun T' _ _ => m.length - iv (T' 15)) ?_ ?_
   ·skip
    refine ⟨0, Nat.zero_le _, rfl, by omega, ?_, ?_, ?_, rfl⟩
    · first | (simp [Heap.put]; done) | (simp [Heap.put]; rfl)
    · first | (simp [Heap.put]; done) | (simp [Heap.put]; rfl)
    · intro k hk; have h0 : k ≠ n := by omega
      have h1 : ∀ j, k ≠ n + j := fun j => by omega
      simp [Heap.put, h0, h1]
   intro T1 H1 n1
   rintro ⟨j, hj, rfl, hn, hH1, hH2, hrest, hd⟩
   refine awp_seq_k fun K3 hK3 => ?_
   refine awp_rq zs [2, 3, 4, 5, 12, 14, 15, 31] ?_
   refine awp_cnd (fun hb => ?_) (fun hb => ?_)
   ·skip
    have hlj : j < m.length := by simpa using hb
    have hsj := hself j hlj
    rw [drop_cons m j hlj, List.any_cons] at hd
    have hnj : nth (m.map entAV) j = entAV (m.getD j default) := nth_map entAV m j hlj
    generalize m.getD j default = x at *
    have q1 : (n + 1 = n1) = False := by simp; omega
    have q2 : (n1 = n + 1) = False := by simp; omega
    have q3 : (n + 2 = n1) = False := by simp; omega
    have q4 : (n1 = n + 2) = False := by simp; omega
    refine awp_skip ?_
    try simp only [go_sem, seval]
    refine hK3 _ _ _ ?_
    first | clear hK3 K3 | skip
    refine awp_seq_k fun K4 hK4 => ?_
    refine awp_block ?_
    refine awp_reg zs [2, 3, 4, 5, 12, 14, 15, 16] fun K hK => ?_
    try simp only [go_sem, seval, Int.toNat_natCast, hnj]
    repeat (first | (refine And.intro ?_ ?_; · first | (simp; omega)) | refine peel ?_)
    refine hK _ _ _ ?_; clear hK K
    refine awp_reg zs [2, 3, 4, 5, 12, 14, 15, 16, 17] fun K hK => ?_
    try simp only [go_sem, seval, hH2, q3]
    repeat (first | (refine And.intro ?_ ?_; · first | (intro _ hh; rw [hh]; rfl)) | refine peel ?_)
    refine callG_use Tryz.func60 rfl rfl rfl (fun _ => (c_ref3_Alike x.row e.row _ _)) ?_
    try simp only [go_sem, seval, hH2, q3]
    repeat (first | (refine And.intro ?_ ?_; · first | (intro _ hh; rw [hh]; rfl)) | refine peel ?_)
    refine callG_use Tryz.func44 rfl rfl rfl (fun _ => (c_ref3_mates x e _ _)) ?_
    try simp only [go_sem, seval]
    repeat (first | (refine And.intro ?_ ?_; · first | (intro _ hh; rw [hh]; rfl)) | refine peel ?_)
    refine hK _ _ _ ?_; clear hK K
    refine awp_reg zs [2, 3, 4, 5, 12, 14, 15, 100] fun K hK => ?_
    try simp only [go_sem, seval, hH2, q3]
    repeat (first | (refine And.intro ?_ ?_; · first | (intro _ hh; rw [hh]; rfl)) | refine peel ?_)
    refine hK _ _ _ ?_; clear hK K
    refine awp_cnd (fun hb => ?_) (fun hb => ?_)
    ·skip
     have hx : rAbv e x = true := by simp only [cond_and, cond_or, Bool.and_eq_true] at hb; unfold rAbv; rw [Bool.and_eq_true]; exact ⟨hb.1.1, hb.2⟩
     rw [hx, Bool.true_or] at hd
     have hend : rFate s clock major low m e = (e, 5) := by unfold rFate; rw [if_pos hv, if_pos hd.symm]
     refine awp_reg zs [12, 13] fun K hK => ?_
     try simp only [go_sem, seval, hH1, hH2, q1, q3]
     repeat refine peel ?_
     refine hK _ _ _ ?_; clear hK K
     refine awp_ret ?_
     try simp only [go_sem, seval]
     rw [hend]
     refine ⟨_, rfl, ?_, Frz.kl ⟨kl_ent _ _, trivial, trivial⟩⟩
     intro k hk
     have h0 : k ≠ n := by omega
     have h1 : k ≠ n + 1 := by omega
     have h2 : k ≠ n + 2 := by omega
     first | (simp [h0, h1, h2]; done) | (have h3 : k ≠ n1 := (by omega); simp [h0, h1, h2, h3, hrest k hk]; done) | (simp [h0, h1, h2, hrest k hk]; done)
    ·skip
     have hx : rAbv e x = false := by
       rw [Bool.eq_false_iff]; intro h9
       have h8 := hsj h9
       simp only [cond_and, cond_or] at hb; unfold rAbv at h9; rw [Bool.and_eq_true] at h9
       have h7 : ((j : Int) != (i : Int)) = true := by simpa using h8
       rw [h7] at hb
       rw [Bool.eq_false_iff] at hb
       exact hb (by rw [Bool.and_eq_true, Bool.and_eq_true]; exact ⟨⟨h9.1, rfl⟩, h9.2⟩)
     rw [hx, Bool.false_or] at hd
     refine awp_skip ?_
     try simp only [go_sem, seval]
     refine hK4 _ _ _ ?_
     first | clear hK4 K4 | skip
     refine awp_reg1 zs [2, 3, 4, 5, 12, 14, 15] fun K hK => ?_
     try simp only [go_sem, seval]
     refine hK _ _ _ ?_; clear hK K
     try simp only [go_sem, seval]
     refine ⟨⟨j + 1, by omega, by rw [w1 (by omega)], by omega, ?_, ?_, ?_, hd⟩, by rw [w1 (by omega)]; simp; omega⟩
     · first | (simp [q1, q2, q3, q4, hH1]; done) | (simp [q1, q2, q3, q4, hH1]; rfl)
     · first | (simp [q1, q2, q3, q4, hH2]; done) | (simp [q1, q2, q3, q4, hH2]; rfl)
     · intro k hk; have h0 : k ≠ n1 := by omega
       simp [h0, hrest k hk]
   ·skip
    have hge9 : j = m.length := by simp at hb; omega
    rw [hge9, List.drop_length, List.any_nil] at hd
    refine awp_exit ?_
    try simp only [go_sem, seval]
    refine hK2 _ _ _ ?_
    first | clear hK2 K2 | skip
    refine awp_seq_k fun K5 hK5 => ?_
    refine awp_reg zs [12, 14, 108] fun K hK => ?_
    try simp only [go_sem, seval, hH2]
    repeat refine peel ?_
    refine hK _ _ _ ?_; clear hK K
    refine awp_cnd (fun hb => ?_) (fun hb => ?_)
    ·skip
     have h108 : (major && decide (e.ts ≤ low)) = true := by simp only [cond_and] at hb; exact hb
     have hend : rFate s clock major low m e = (e, 5) := by unfold rFate; rw [if_pos hv, if_neg (by rw [← hd]; decide), if_pos h108]
     refine awp_reg zs [12, 13] fun K hK => ?_
     try simp only [go_sem, seval, hH1, hH2]
     repeat refine peel ?_
     refine hK _ _ _ ?_; clear hK K
     refine awp_ret ?_
     try simp only [go_sem, seval]
     rw [hend]
     refine ⟨_, rfl, ?_, Frz.kl ⟨kl_ent _ _, trivial, trivial⟩⟩
     intro k hk
     have h0 : k ≠ n := by omega
     have h1 : k ≠ n + 1 := by omega
     have h2 : k ≠ n + 2 := by omega
     first | (simp [h0, h1, h2]; done) | (have h3 : k ≠ n1 := (by omega); simp [h0, h1, h2, h3, hrest k hk]; done) | (simp [h0, h1, h2, hrest k hk]; done)
    ·skip
     have h108 : ¬ (major && decide (e.ts ≤ low)) = true := by simp only [cond_and] at hb; exact Bool.eq_false_iff.1 hb
     have hend : rFate s clock major low m e = (e, 0) := by unfold rFate; rw [if_pos hv, if_neg (by rw [← hd]; decide), if_neg h108]
     refine awp_skip ?_
     try simp only [go_sem, seval]
     refine hK5 _ _ _ ?_
     first | clear hK5 K5 | skip
     refine awp_reg zs [12, 13] fun K hK => ?_
     try simp only [go_sem, seval, hH1, hH2]
     repeat refine peel ?_
     refine hK _ _ _ ?_; clear hK K
     refine awp_ret ?_
     try simp only [go_sem, seval]
     rw [hend]
     refine ⟨_, rfl, ?_, Frz.kl ⟨kl_ent _ _, trivial, trivial⟩⟩
     intro k hk
     have h0 : k ≠ n := by omega
     have h1 : k ≠ n + 1 := by omega
     have h2 : k ≠ n + 2 := by omega
     first | (simp [h0, h1, h2]; done) | (have h3 : k ≠ n1 := (by omega); simp [h0, h1, h2, h3, hrest k hk]; done) | (simp [h0, h1, h2, hrest k hk]; done)
  ·skip
   have hv : rVer e = true := by simpa using hb
   have hv' : ¬ rVer e = false := by rw [hv]; decide
   refine awp_skip ?_
   try simp only [go_sem, seval]
   refine hK1 _ _ _ ?_
   first | clear hK1 K1 | skip
   refine awp_reg zs [1, 2, 4, 6, 12, 14, 18, 19] fun K hK => ?_
   try simp only [go_sem, seval]
   refine callK_use Tryz.func51 rfl rfl rfl ((c_ref3_group m e hr.lt _ _)) ?_
   try simp only [go_sem, seval]
   refine hK _ _ _ ?_; clear hK K
   refine awp_seq_k fun K6 hK6 => ?_
   refine awp_rq zs [1, 2, 4, 6, 12, 14, 18, 118] ?_
   refine awp_cnd (fun hb => ?_) (fun hb => ?_)
   ·skip
    have h1 : (rGroup m e).2 = false := by simpa using hb
    have hend : rFate s clock major low m e = (e, 1) := by unfold rFate; rw [if_neg hv', if_pos h1]
    refine awp_rq zs [12, 13] ?_
    refine awp_ret ?_
    try simp only [go_sem, seval]
    rw [hend]
    refine ⟨_, rfl, ?_, Frz.kl ⟨kl_ent _ _, trivial, trivial⟩⟩
    intro k hk
    have h0 : k ≠ n := by omega
    have h1 : k ≠ n + 1 := by omega
    have h2 : k ≠ n + 2 := by omega
    first | (simp [h0, h1, h2]; done) | (have h3 : k ≠ n1 := (by omega); simp [h0, h1, h2, h3, hrest k hk]; done) | (simp [h0, h1, h2, hrest k hk]; done)
   ·skip
    have h1 : ¬ (rGroup m e).2 = false := by simpa using hb
    refine awp_skip ?_
    try simp only [go_sem, seval]
    refine hK6 _ _ _ ?_
    first | clear hK6 K6 | skip
    refine awp_seq_k fun K7 hK7 => ?_
    refine awp_drw rfl zs [1, 2, 4, 6, 12, 14, 18, 125] [.q, .q, .m, .q, .c, .q] (by kernel_rfl) (fun _ _ _ _ _ h => h) fun K hK => ?_
    try simp only [go_sem, seval]
    refine callQG_use Tryz.func82 rfl rfl rfl (fun _ n => (c_ref3_Mask m e hr.lt _ _)) ?_
    try simp only [go_sem, seval]
    refine hK _ _ _ ?_; clear hK K
    refine awp_cnd (fun hb => ?_) (fun hb => ?_)
    ·skip
     have h2 : e.ts ≤ rMask m e := by simpa using hb
     have hend : rFate s clock major low m e = (e, 2) := by unfold rFate; rw [if_neg hv', if_neg h1, if_pos h2]
     refine awp_rq zs [12, 13] ?_
     refine awp_ret ?_
     try simp only [go_sem, seval]
     rw [hend]
     refine ⟨_, rfl, ?_, Frz.kl ⟨kl_ent _ _, trivial, trivial⟩⟩
     intro k hk
     have h0 : k ≠ n := by omega
     have h1 : k ≠ n + 1 := by omega
     have h2 : k ≠ n + 2 := by omega
     first | (simp [h0, h1, h2]; done) | (have h3 : k ≠ n1 := (by omega); simp [h0, h1, h2, h3, hrest k hk]; done) | (simp [h0, h1, h2, hrest k hk]; done)
    ·skip
     have h2 : ¬ e.ts ≤ rMask m e := by simpa using hb
     refine awp_skip ?_
     try simp only [go_sem, seval]
     refine hK7 _ _ _ ?_
     first | clear hK7 K7 | skip
     refine awp_reg zs [1, 2, 4, 6, 12, 14, 18, 20] fun K hK => ?_
     try simp only [go_sem, seval]
     refine callK_use Tryz.func83 rfl rfl rfl ((c_ref3_expired s clock e hr.ttl hge _ _)) ?_
     try simp only [go_sem, seval]
     refine hK _ _ _ ?_; clear hK K
     refine awp_seq_k fun K8 hK8 => ?_
     refine awp_rq zs [1, 2, 4, 6, 12, 14, 18, 131] ?_
     refine awp_cnd (fun hb => ?_) (fun hb => ?_)
     ·skip
      have h3 : rExp s clock e = true := hb
      have hend : rFate s clock major low m e = (e, 3) := by unfold rFate; rw [if_neg hv', if_neg h1, if_neg h2, if_pos h3]
      refine awp_rq zs [12, 13] ?_
      refine awp_ret ?_
      try simp only [go_sem, seval]
      rw [hend]
      refine ⟨_, rfl, ?_, Frz.kl ⟨kl_ent _ _, trivial, trivial⟩⟩
      intro k hk
      have h0 : k ≠ n := by omega
      have h1 : k ≠ n + 1 := by omega
      have h2 : k ≠ n + 2 := by omega
      first | (simp [h0, h1, h2]; done) | (have h3 : k ≠ n1 := (by omega); simp [h0, h1, h2, h3, hrest k hk]; done) | (simp [h0, h1, h2, hrest k hk]; done)
     ·skip
      have h3 : ¬ rExp s clock e = true := by rw [hb]; decide
      refine awp_skip ?_
      try simp only [go_sem, seval]
      refine hK8 _ _ _ ?_
      first | clear hK8 K8 | skip
      refine awp_seq_k fun K9 hK9 => ?_
      refine awp_rq zs [1, 2, 4, 6, 12, 14, 18, 134] ?_
      refine awp_cnd (fun hb => ?_) (fun hb => ?_)
      ·skip
       have h4 : (rGroup m e).1 = 0 := by simpa using hb
       refine awp_seq_k fun K10 hK10 => ?_
       refine awp_rq zs [12, 14, 135] ?_
       refine awp_cnd (fun hb => ?_) (fun hb => ?_)
       ·skip
        have h5 : major = true := hb
        have hend : rFate s clock major low m e = (e, 5) := by unfold rFate; rw [if_neg hv', if_neg h1, if_neg h2, if_neg h3, if_pos h4, if_pos h5]
        refine awp_rq zs [12, 13] ?_
        refine awp_ret ?_
        try simp only [go_sem, seval]
        rw [hend]
        refine ⟨_, rfl, ?_, Frz.kl ⟨kl_ent _ _, trivial, trivial⟩⟩
        intro k hk
        have h0 : k ≠ n := by omega
        have h1 : k ≠ n + 1 := by omega
        have h2 : k ≠ n + 2 := by omega
        first | (simp [h0, h1, h2]; done) | (have h3 : k ≠ n1 := (by omega); simp [h0, h1, h2, h3, hrest k hk]; done) | (simp [h0, h1, h2, hrest k hk]; done)
       ·skip
        have h5 : ¬ major = true := by rw [hb]; decide
        have hend : rFate s clock major low m e = (e, 0) := by unfold rFate; rw [if_neg hv', if_neg h1, if_neg h2, if_neg h3, if_pos h4, if_neg h5]
        refine awp_skip ?_
        try simp only [go_sem, seval]
        refine hK10 _ _ _ ?_
        first | clear hK10 K10 | skip
        refine awp_rq zs [12, 13] ?_
        refine awp_ret ?_
        try simp only [go_sem, seval]
        rw [hend]
        refine ⟨_, rfl, ?_, Frz.kl ⟨kl_ent _ _, trivial, trivial⟩⟩
        intro k hk
        have h0 : k ≠ n := by omega
        have h1 : k ≠ n + 1 := by omega
        have h2 : k ≠ n + 2 := by omega
        first | (simp [h0, h1, h2]; done) | (have h3 : k ≠ n1 := (by omega); simp [h0, h1, h2, h3, hrest k hk]; done) | (simp [h0, h1, h2, hrest k hk]; done)
      ·skip
       have h4 : ¬ (rGroup m e).1 = 0 := by simpa using hb
       refine awp_skip ?_
       try simp only [go_sem, seval]
       refine hK9 _ _ _ ?_
       first | clear hK9 K9 | skip
       refine awp_seq_k fun K11 hK11 => ?_
       refine awp_drw rfl zs [12, 14, 18, 150] [.q, .m, .m, .q, .c, .q, .q, .q, .q, .q, .q, .q, .q] (by kernel_rfl) (fun _ _ _ _ _ h => h) fun K hK => ?_
       try simp only [go_sem, seval, hfn]
       refine callQG_use Tryz.func71 rfl rfl rfl (fun _ n => (c_ref3_rank s clock m e hr.lt hr.ttl hr.good _ _)) ?_
       try simp only [go_sem, seval]
       repeat refine peel ?_
       refine hK _ _ _ ?_; clear hK K
       refine awp_cnd (fun hb => ?_) (fun hb => ?_)
       ·skip
        have h6 : (famAt s e.fam).max < rRank s clock m e := by simpa using hb
        have hend : rFate s clock major low m e = (e, 4) := by unfold rFate; rw [if_neg hv', if_neg h1, if_neg h2, if_neg h3, if_neg h4, if_pos h6]
        refine awp_rq zs [12, 13] ?_
        refine awp_ret ?_
        try simp only [go_sem, seval]
        rw [hend]
        refine ⟨_, rfl, ?_, Frz.kl ⟨kl_ent _ _, trivial, trivial⟩⟩
        intro k hk
        have h0 : k ≠ n := by omega
        have h1 : k ≠ n + 1 := by omega
        have h2 : k ≠ n + 2 := by omega
        first | (simp [h0, h1, h2]; done) | (have h3 : k ≠ n1 := (by omega); simp [h0, h1, h2, h3, hrest k hk]; done) | (simp [h0, h1, h2, hrest k hk]; done)
       ·skip
        have h6 : ¬ (famAt s e.fam).max < rRank s clock m e := by simpa using hb
        refine awp_skip ?_
        try simp only [go_sem, seval]
        refine hK11 _ _ _ ?_
        first | clear hK11 K11 | skip
        refine awp_seq_k fun K12 hK12 => ?_
        refine awp_rq zs [12, 14, 153] ?_
        refine awp_cnd (fun hb => ?_) (fun hb => ?_)
        ·skip
         have h7 : (rGroup m e).1 = 2 := by simpa using hb
         have hend : rFate s clock major low m e = (hsk e, 0) := by unfold rFate; rw [if_neg hv', if_neg h1, if_neg h2, if_neg h3, if_neg h4, if_neg h6, if_pos h7]
         refine awp_rq zs [12, 14] ?_
         refine awp_reg1 zs [12, 14] fun K hK => ?_
         try simp only [go_sem, seval]
         refine hK _ _ _ ?_; clear hK K
         try simp only [go_sem, seval]
         refine hK12 _ _ _ ?_
         first | clear hK12 K12 | skip
         first | refine awp_wk_obj (n + 2) (els' := [entAV (hsk e)]) (Heap.put_same _ _ _) ⟨Wk.agg ⟨.refl _, .refl _, .refl _, .refl _, .refl _, .refl _, Wk.nilsl 1, trivial⟩, trivial⟩ ?_ | skip
         refine awp_rq zs [12, 13] ?_
         refine awp_ret ?_
         try simp only [go_sem, seval]
         rw [hend]
         refine ⟨_, rfl, ?_, Frz.kl ⟨kl_ent _ _, trivial, trivial⟩⟩
         intro k hk
         have h0 : k ≠ n := by omega
         have h1 : k ≠ n + 1 := by omega
         have h2 : k ≠ n + 2 := by omega
         first | (simp [h0, h1, h2]; done) | (have h3 : k ≠ n1 := (by omega); simp [h0, h1, h2, h3, hrest k hk]; done) | (simp [h0, h1, h2, hrest k hk]; done)
        ·skip
         have h7 : ¬ (rGroup m e).1 = 2 := by simpa using hb
         have hend : rFate s clock major low m e = (e, 0) := by unfold rFate; rw [if_neg hv', if_neg h1, if_neg h2, if_neg h3, if_neg h4, if_neg h6, if_neg h7]
         refine awp_skip ?_
         try simp only [go_sem, seval]
         refine hK12 _ _ _ ?_
         first | clear hK12 K12 | skip
         first | refine awp_wk_obj (n + 2) (els' := [entAV (hsk e)]) (Heap.put_same _ _ _) ⟨Wk.agg ⟨.refl _, .refl _, .refl _, .refl _, .refl _, .refl _, Wk.nilsl 1, trivial⟩, trivial⟩ ?_ | skip
         refine awp_rq zs [12, 13] ?_
         refine awp_ret ?_
         try simp only [go_sem, seval]
         rw [hend]
         refine ⟨_, rfl, ?_, Frz.kl ⟨kl_ent _ _, trivial, trivial⟩⟩
         intro k hk
         have h0 : k ≠ n := by omega
         have h1 : k ≠ n + 1 := by omega
         have h2 : k ≠ n + 2 := by omega
         first | (simp [h0, h1, h2]; done) | (have h3 : k ≠ n1 := (by omega); simp [h0, h1, h2, h3, hrest k hk]; done) | (simp [h0, h1, h2, hrest k hk]; done)
end Go.Proofs.YtijhkfhflpmajaaGreat
namespace Go.Proofs.YtijhkfhflpmajaaGreat
open Go Go.Sx Go.Rt Go.Proofs
theorem rFate_fits (s : List Fml) (clock low : Int) (major : Bool) (m : List Ent) (e : Ent) (h : e.fits) : (rFate s clock major low m e).1.fits := by
  have hh : (hsk e).fits := ⟨h.1, h.2.1, by simp [hsk]⟩
  unfold rFate
  repeat' split
  all_goals first | exact h | exact hh
theorem c_ref3_Squash (s : List Fml) (clock low : Int) (major : Bool) (l : List Ent) (hl : l.length ≤ 1000000000) (hf : ∀ e ∈ l, e.fits) (H : Heap) (n : Nat) : Ret Tryz.prog 23 [schAV s, .int .i64 clock, .bool major, .int .i64 low, entsAV l] H n (.tup [entsAV (rSquashE s clock major low l).1, .int .i64 (rSquashE s clock major low l).2]) H n := by
  refine Ret.fin ?_
  refine acalls_of_awp Tryz.func23 rfl Tryz.ntmps23 (congrArg Array.toList Tryz.results23) (by simp) ?_
  simp only [go_sem]
  refine awp_rq zs [1, 2, 3, 4, 5] ?_
  refine awp_reg zs [1, 2, 3, 4, 5, 12] fun K hK => ?_
  try simp only [go_sem, seval]
  refine callK_use Tryz.func39 rfl rfl rfl ((c_ref3_asked s clock low 0 1 l (by omega) _ _)) ?_
  try simp only [go_sem, seval]
  refine hK _ _ _ ?_; clear hK K
  refine awp_seq_k fun K1 hK1 => ?_
  refine awp_rq zs [1, 2, 3, 4, 5, 12, 24] ?_
  refine awp_cnd (fun hb => ?_) (fun hb => ?_)
  ·skip
   have h14 : rAsked s clock low 0 1 l ≠ 0 := by simpa using hb
   have hq : rSquashE s clock major low l = ([], rAsked s clock low 0 1 l) := by unfold rSquashE; rw [if_pos h14]
   refine awp_rq zs [10, 11] ?_
   refine awp_ret ?_
   try simp only [go_sem, seval]
   rw [hq]
   first
   | (refine ⟨_, rfl, ?_, .tup (.cons .nilsl (.cons (.kl trivial) .nil))⟩
      intro k hk; have h0 : k ≠ n := by omega
      simp [Heap.put, h0])
   | exact ⟨_, rfl, hrest, .tup (.cons (by rw [← hd]; exact .osl hHr (by omega) (by simp) (by rw [List.drop_zero, List.take_of_length_le (by simp)]; exact FrzL.kls _ (kls_ents _ _))) (.cons (.kl trivial) .nil))⟩
  ·skip
   have h14 : ¬ rAsked s clock low 0 1 l ≠ 0 := by simpa using hb
   have hq : rSquashE s clock major low l = (rSquash s clock major low (rOrd l), 0) := by unfold rSquashE; rw [if_neg h14]
   have hro := rReady hl hf (by simpa using h14)
   refine awp_skip ?_
   try simp only [go_sem, seval]
   refine hK1 _ _ _ ?_
   first | clear hK1 K1 | skip
   refine awp_reg zs [1, 2, 3, 5, 13] fun K hK => ?_
   try simp only [go_sem, seval]
   refine callK_use Tryz.func38 rfl rfl rfl ((c_ref3_ordered l hl hf _ _)) ?_
   try simp only [go_sem, seval]
   refine hK _ _ _ ?_; clear hK K
   generalize rOrd l = m at *
   have hml := hro.len
   refine awp_rq zs [1, 2, 3, 5, 13, 14] ?_
   refine awp_seq_k fun K2 hK2 => ?_
   refine awp_adopt_tmp 14 7 rfl ?_
   refine awp_rq zs [1, 2, 3, 5, 13, 14, 15] ?_
   refine awp_block ?_
   refine awp_loop (fun T' H' n' => ∃ (i : Nat) (r : List Ent), i ≤ m.length ∧ r.length ≤ i ∧ T' = tl [(1, .int .i64 clock), (2, .bool major), (3, .int .i64 low), (5, .loc n 0 0 0 []), (13, .sl 7 (m.map entAV)), (14, .osl (n + 1) r.length 0 r.length), (15, .int .i64 i)] ∧ n + 2 ≤ n' ∧ H' n = some (.arr 0 1 [.agg [.sl 3 (s.map famAV)]]) ∧ H' (n + 1) = some (.arr r.length 7 (r.map entAV)) ∧ (∀ k, k < n → H' k = H k) ∧ (m.drop i).foldl (rSqS s clock major low m) r = rSquash s clock major low m) (fun T' _ _ => m.length - iv (T' 15)) ?_ ?_
   ·skip
    refine ⟨0, [], Nat.zero_le _, Nat.zero_le _, rfl, by omega, ?_, ?_, ?_, rfl⟩
    · first | (simp [Heap.put]; done) | (simp [Heap.put]; rfl)
    · first | (simp [Heap.put]; done) | (simp [Heap.put]; rfl)
    · intro k hk; have h0 : k ≠ n := by omega
      have h1 : k ≠ n + 1 := by omega
      simp [Heap.put, h0, h1]
   intro T1 H1 n1
   rintro ⟨i, r, hi, hri, rfl, hn, hHn, hHr, hrest, hd⟩
   refine awp_seq_k fun K3 hK3 => ?_
   refine awp_rq zs [1, 2, 3, 5, 13, 14, 15, 31] ?_
   refine awp_cnd (fun hb => ?_) (fun hb => ?_)
   ·skip
    have hlt : i < m.length := by simpa using hb
    rw [drop_cons m i hlt, List.foldl_cons] at hd
    have hfe : (m.getD i default).fits := (hro.good _ (by simp [List.getD, List.getElem?_eq_getElem hlt])).2.2.1
    have hff := rFate_fits s clock low major m _ hfe
    have hfate := fun H9 n9 => c_ref3_fate s clock low major m hro i hlt H9 n9
    generalize m.getD i default = e at *
    have q1 : (n + 1 = n1) = False := by simp; omega
    have q2 : (n1 = n + 1) = False := by simp; omega
    have q3 : (n = n1) = False := by simp; omega
    have q4 : (n1 = n) = False := by simp; omega
    refine awp_skip ?_
    try simp only [go_sem, seval]
    refine hK3 _ _ _ ?_
    first | clear hK3 K3 | skip
    refine awp_seq_k fun K4 hK4 => ?_
    refine awp_block ?_
    refine awp_reg zs [1, 2, 3, 5, 13, 14, 15, 16, 17] fun K hK => ?_
    try simp only [go_sem, seval, Int.toNat_natCast, hHn]
    repeat (first | (refine And.intro ?_ ?_; · first | exact entAV_sz _ | exact ⟨rfl, by rw [entAV_sz], rfl⟩ | exact ⟨rfl, entAV_sz _, rfl⟩) | refine peel ?_)
    refine callK_use Tryz.func46 rfl rfl rfl ((hfate _ _)) ?_
    try simp only [go_sem, seval, List.getD_cons_zero, List.getD_cons_succ]
    repeat (first | (refine And.intro ?_ ?_; · first | exact entAV_sz _ | exact ⟨rfl, by rw [entAV_sz], rfl⟩ | exact ⟨rfl, entAV_sz _, rfl⟩) | refine peel ?_)
    refine hK _ _ _ ?_; clear hK K
    refine awp_rq zs [1, 2, 3, 5, 13, 14, 15, 16, 45] ?_
    refine awp_cnd (fun hb => ?_) (fun hb => ?_)
    ·skip
     have hs : rSqS s clock major low m r e = r ++ [(rFate s clock major low m e).1] := if_pos (by simpa using hb)
     refine awp_reg1 zs [1, 2, 3, 5, 13, 14, 15] fun K hK => ?_
     try simp only [go_sem, seval]
     repeat (first | (refine And.intro ?_ ?_; · first | exact ⟨rfl, by simp [AV.sz, AV.szs, AV.memOK]⟩ | (simp; omega) | exact ⟨by simp, .inr trivial, by simp; omega, by simp; omega⟩) | refine peel ?_)
     refine callK_use Tryz.func34 rfl rfl rfl ((c_ref3_Clone (rFate s clock major low m e).1 hff _ _)) ?_
     try simp only [go_sem, seval, hHr, q1]
     repeat (first | (refine And.intro ?_ ?_; · first | exact ⟨rfl, by simp [AV.sz, AV.szs, AV.memOK]⟩ | (simp; omega) | exact ⟨by simp, .inr trivial, by simp; omega, by simp; omega⟩) | refine peel ?_)
     refine hK _ _ _ ?_; clear hK K
     try simp only [go_sem, seval]
     refine hK4 _ _ _ ?_
     first | clear hK4 K4 | skip
     refine awp_reg1 zs [1, 2, 3, 5, 13, 14, 15] fun K hK => ?_
     try simp only [go_sem, seval]
     refine hK _ _ _ ?_; clear hK K
     try simp only [go_sem, seval]
     rw [hs] at hd
     refine ⟨⟨i + 1, _, by omega, by first | omega | (simp; omega), by first | (rw [w1 (by omega)]; done) | (rw [w1 (by omega)]; simp; done), by omega, ?_, ?_, ?_, hd⟩, by rw [w1 (by omega)]; simp; omega⟩
     · first | exact hHn | (simp [hHn, q1, q2, q3, q4]; done) | (simp [hHn, q1, q2, q3, q4]; rfl)
     · first | exact hHr | (simp [hHr, q1, q2, q3, q4]; done) | (simp [hHr, q1, q2, q3, q4, List.take_of_length_le]; rfl)
     · intro k hk; have h0 : k ≠ n + 1 := by omega
       have h1 : k ≠ n1 := by omega
       first | exact hrest k hk | simp [h0, h1, hrest k hk]
    ·skip
     have hs : rSqS s clock major low m r e = r := if_neg (by simpa using hb)
     refine awp_skip ?_
     try simp only [go_sem, seval]
     refine hK4 _ _ _ ?_
     first | clear hK4 K4 | skip
     refine awp_reg1 zs [1, 2, 3, 5, 13, 14, 15] fun K hK => ?_
     try simp only [go_sem, seval]
     refine hK _ _ _ ?_; clear hK K
     try simp only [go_sem, seval]
     rw [hs] at hd
     refine ⟨⟨i + 1, _, by omega, by first | omega | (simp; omega), by first | (rw [w1 (by omega)]; done) | (rw [w1 (by omega)]; simp; done), by omega, ?_, ?_, ?_, hd⟩, by rw [w1 (by omega)]; simp; omega⟩
     · first | exact hHn | (simp [hHn, q1, q2, q3, q4]; done) | (simp [hHn, q1, q2, q3, q4]; rfl)
     · first | exact hHr | (simp [hHr, q1, q2, q3, q4]; done) | (simp [hHr, q1, q2, q3, q4, List.take_of_length_le]; rfl)
     · intro k hk; have h0 : k ≠ n + 1 := by omega
       have h1 : k ≠ n1 := by omega
       first | exact hrest k hk | simp [h0, h1, hrest k hk]
   ·skip
    have hge : i = m.length := by simp at hb; omega
    rw [hge, List.drop_length, List.foldl_nil] at hd
    refine awp_exit ?_
    try simp only [go_sem, seval]
    refine hK2 _ _ _ ?_
    first | clear hK2 K2 | skip
    refine awp_rq zs [10, 11] ?_
    refine awp_ret ?_
    try simp only [go_sem, seval]
    rw [hq]
    first
    | (refine ⟨_, rfl, ?_, .tup (.cons .nilsl (.cons (.kl trivial) .nil))⟩
       intro k hk; have h0 : k ≠ n := by omega
       simp [Heap.put, h0])
    | exact ⟨_, rfl, hrest, .tup (.cons (by rw [← hd]; exact .osl hHr (by omega) (by simp) (by rw [List.drop_zero, List.take_of_length_le (by simp)]; exact FrzL.kls _ (kls_ents _ _))) (.cons (.kl trivial) .nil))⟩
end Go.Proofs.YtijhkfhflpmajaaGreat
namespace Go.Proofs.YtijhkfhflpmajaaGreat
open Go Go.Sx Go.Rt Go.Proofs
theorem p_ref3_ordered (kI vI : Nat) (l : List Ent) (hl : l.length ≤ 1000000000) (hf : ∀ e ∈ l, e.fits) (H : Heap) (n : Nat) (hkI : kI < n) (hI : H kI = some (.arr vI 7 (l.map entAV))) : Ret Tryz.prog 38 [.osl kI vI 0 l.length] H n (entsAV (rOrd l)) H n := by
  refine Ret.fin ?_
  refine acalls_of_awp Tryz.func38 rfl Tryz.ntmps38 (congrArg Array.toList Tryz.results38) (by simp) ?_
  simp only [go_sem]
  refine awp_rq zs [0] ?_
  refine awp_rq zs [0, 3] ?_
  refine awp_seq_k fun K1 hK1 => ?_
  refine awp_wk_tmp 3 (.sl 7 []) (Wk.nilsl 7) ?_
  refine awp_rq zs [0, 3, 4] ?_
  refine awp_block ?_
  refine awp_loop (fun T' H' n' => ∃ (i : Nat) (m : List Ent), i ≤ l.length ∧ m.length ≤ i ∧ (∀ x ∈ m, x.fits) ∧ T' = tl [(0, .osl kI vI 0 l.length), (3, .sl 7 (m.map entAV)), (4, .int .i64 i)] ∧ n ≤ n' ∧ (∀ k, k < n → H' k = H k) ∧ (l.drop i).foldl rIns m = rOrd l) (fun T' _ _ => l.length - iv (T' 4)) ?_ ?_
  ·skip
   exact ⟨0, [], Nat.zero_le _, Nat.zero_le _, fun x hx => by (cases hx), rfl, Nat.le_refl _, fun k hk => rfl, rfl⟩
  intro T1 H1 n1
  rintro ⟨i, m, hi, hmi, hmf, rfl, hn, hrest, hd⟩
  refine awp_seq_k fun K2 hK2 => ?_
  refine awp_rq zs [0, 3, 4, 10] ?_
  refine awp_cnd (fun hb => ?_) (fun hb => ?_)
  ·skip
   have hI1 : H1 kI = some (.arr vI 7 (l.map entAV)) := (hrest kI hkI).trans hI
   have qI : (kI = n1) = False := by simp; omega
   have qI2 : (n1 = kI) = False := by simp; omega
   have hll : (l.map entAV).length = l.length := List.length_map _
   have hlt : i < l.length := by simpa using hb
   rw [drop_cons l i hlt, List.foldl_cons] at hd
   have hnth : nth (l.map entAV) i = entAV (l.getD i default) := nth_map entAV l i hlt
   have hfe : (l.getD i default).fits := hf _ (by simp [List.getD, List.getElem?_eq_getElem hlt])
   generalize l.getD i default = e at *
   have hat : rAt e m ≤ m.length := rAt_le e m
   have hil := rIns_len m e
   refine awp_skip ?_
   try simp only [go_sem, ↓reduceIte, Nat.reduceEqDiff]
   refine hK2 _ _ _ ?_
   first | clear hK2 K2 | skip
   refine awp_seq_k fun K3 hK3 => ?_
   refine awp_block ?_
   refine awp_rq zs [0, 3, 4, 5] ?_
   refine awp_seq_k fun K4 hK4 => ?_
   refine awp_block ?_
   refine awp_loop (fun T' H' n' => ∃ (a : Nat), a ≤ m.length ∧ T' = tl [(0, .osl kI vI 0 l.length), (3, .sl 7 (m.map entAV)), (4, .int .i64 i), (5, .int .i64 a)] ∧ H' = H1 ∧ n' = n1 ∧ a + rAt e (m.drop a) = rAt e m) (fun T' _ _ => m.length - iv (T' 5)) ?_ ?_
   ·skip
    exact ⟨0, Nat.zero_le _, rfl, rfl, rfl, by simp⟩
   intro T1 H1 n1
   rintro ⟨a, ha, rfl, rfl, rfl, hd2⟩
   refine awp_seq_k fun K5 hK5 => ?_
   refine awp_drw rfl zs [0, 3, 4, 5, 28] [.m, .m, .q, .q, .m, .m, .m, .q, .q, .m, .m, .q, .q, .c, .q, .q] (by kernel_rfl) (fun _ _ _ _ _ h => h) fun K hK => ?_
   try simp only [go_sem, ↓reduceIte, Nat.reduceEqDiff, Nat.reduceLT, Nat.reduceAdd, hI1, Int.toNat_natCast, hnth, List.length_map]
   repeat (first | (refine And.intro ?_ ?_; · first | (intro hg; simp at hg; simp; omega) | (intro hg; have hg : a < m.length := (by simpa using hg); rw [nth_map entAV m a hg]; exact ⟨rfl, by rw [entAV_sz]⟩) | (intro _; omega) | (intro hg; simp at hg ⊢; omega)) | refine peel ?_)
   refine callQG_use (args' := [nth (m.map entAV) a, entAV e]) (r := .int .i64 (compE (m.getD a default) e)) Tryz.func68 rfl rfl (by rfl) (fun hg n => by rw [nth_map entAV m a (by simpa using hg)]; exact c_ref2_Compare _ _ (hmf _ (by rw [List.getD, List.getElem?_eq_getElem (show a < m.length by simpa using hg)]; exact List.getElem_mem _)) _ _) ?_
   try simp only [go_sem]
   repeat (first | (refine And.intro ?_ ?_; · first | (intro hg; simp at hg; simp; omega) | (intro hg; have hg : a < m.length := (by simpa using hg); rw [nth_map entAV m a hg]; exact ⟨rfl, by rw [entAV_sz]⟩) | (intro _; omega) | (intro hg; simp at hg ⊢; omega)) | refine peel ?_)
   refine hK _ _ _ ?_; clear hK K
   refine awp_cnd (fun hb => ?_) (fun hb => ?_)
   ·skip
    simp only [cond_and, Bool.and_eq_true, decide_eq_true_eq] at hb
    have hal : a < m.length := by omega
    have hcmp : compE (m.getD a default) e < 0 := hb.2
    rw [drop_cons m a hal, rAt, if_pos hcmp] at hd2
    refine awp_skip ?_
    try simp only [go_sem, ↓reduceIte, Nat.reduceEqDiff]
    refine hK5 _ _ _ ?_
    first | clear hK5 K5 | skip
    refine awp_block ?_
    refine awp_reg1 zs [0, 3, 4, 5] fun K hK => ?_
    try simp only [go_sem, ↓reduceIte, Nat.reduceEqDiff, Nat.reduceLT]
    refine hK _ _ _ ?_; clear hK K
    try simp only [go_sem, ↓reduceIte, Nat.reduceEqDiff]
    refine ⟨⟨a + 1, by omega, by rw [w1 (by omega)], by omega⟩, by rw [w1 (by omega)]; simp; omega⟩
   ·skip
    simp only [cond_and, Bool.and_eq_false_iff, decide_eq_false_iff_not] at hb
    have hae : a = rAt e m := by
      rcases Nat.lt_or_ge a m.length with hal | hal
      · have hcmp : ¬ compE (m.getD a default) e < 0 := hb.elim (fun h => absurd (by omega) h) id
        rw [drop_cons m a hal, rAt, if_neg hcmp] at hd2; omega
      · rw [List.drop_eq_nil_of_le hal, rAt] at hd2; omega
    refine awp_exit ?_
    try simp only [go_sem, ↓reduceIte, Nat.reduceEqDiff]
    refine hK4 _ _ _ ?_
    first | clear hK4 K4 | skip
    refine awp_seq_k fun K6 hK6 => ?_
    refine awp_drw rfl zs [0, 3, 4, 5, 46] [.m, .m, .q, .q, .m, .m, .m, .q, .q, .m, .m, .q, .q, .c, .q, .q] (by kernel_rfl) (fun _ _ _ _ _ h => h) fun K hK => ?_
    try simp only [go_sem, ↓reduceIte, Nat.reduceEqDiff, Nat.reduceLT, Nat.reduceAdd, hI1, Int.toNat_natCast, hnth, List.length_map]
    repeat (first | (refine And.intro ?_ ?_; · first | (intro hg; simp at hg; simp; omega) | (intro hg; have hg : a < m.length := (by simpa using hg); rw [nth_map entAV m a hg]; exact ⟨rfl, by rw [entAV_sz]⟩) | (intro _; omega) | (intro hg; simp at hg ⊢; omega)) | refine peel ?_)
    refine callQG_use (args' := [nth (m.map entAV) a, entAV e]) (r := .int .i64 (compE (m.getD a default) e)) Tryz.func68 rfl rfl (by rfl) (fun hg n => by rw [nth_map entAV m a (by simpa using hg)]; exact c_ref2_Compare _ _ (hmf _ (by rw [List.getD, List.getElem?_eq_getElem (show a < m.length by simpa using hg)]; exact List.getElem_mem _)) _ _) ?_
    try simp only [go_sem]
    repeat (first | (refine And.intro ?_ ?_; · first | (intro hg; simp at hg; simp; omega) | (intro hg; have hg : a < m.length := (by simpa using hg); rw [nth_map entAV m a hg]; exact ⟨rfl, by rw [entAV_sz]⟩) | (intro _; omega) | (intro hg; simp at hg ⊢; omega)) | refine peel ?_)
    refine hK _ _ _ ?_; clear hK K
    refine awp_cnd (fun hb => ?_) (fun hb => ?_)
    ·skip
     simp only [cond_and, Bool.and_eq_true, decide_eq_true_eq, beq_iff_eq] at hb
     have hins : rIns m e = m := by
       unfold rIns; rw [← hae, if_pos ⟨by omega, hb.2⟩]
     refine awp_exit ?_
     try simp only [go_sem, ↓reduceIte, Nat.reduceEqDiff]
     refine hK3 _ _ _ ?_
     first | clear hK3 K3 | skip
     refine awp_reg1 zs [0, 3, 4] fun K hK => ?_
     try simp only [go_sem, ↓reduceIte, Nat.reduceEqDiff, Nat.reduceLT]
     refine hK _ _ _ ?_; clear hK K
     try simp only [go_sem, ↓reduceIte, Nat.reduceEqDiff]
     rw [hins] at hd hil
     refine ⟨⟨i + 1, _, by omega, by omega, ?_, by rw [w1 (by omega)], by omega, ?_, hd⟩, by rw [w1 (by omega)]; simp; omega⟩
     · intro x hx; rcases rIns_mem (by rw [hins]; exact hx) with h | h; (exact hmf x h); (rw [h]; exact hfe)
     · intro k hk; first | exact hrest k hk | (have h0 : k ≠ n1 := (by omega); simp [h0, hrest k hk])
    ·skip
     simp only [cond_and, Bool.and_eq_false_iff, decide_eq_false_iff_not, beq_eq_false_iff_ne] at hb
     have hins : rIns m e = m.take a ++ (e :: m.drop a) := by
       unfold rIns; rw [← hae, if_neg]
       rintro ⟨hal, h0⟩
       exact hb.elim (fun h => h (by omega)) fun h => h h0
     refine awp_skip ?_
     try simp only [go_sem, ↓reduceIte, Nat.reduceEqDiff]
     refine hK6 _ _ _ ?_
     first | clear hK6 K6 | skip
     refine awp_rq zs [0, 3, 4, 5, 6] ?_
     refine awp_adopt_tmp 6 7 rfl ?_
     refine awp_reg zs [0, 3, 4, 5, 6] fun K hK => ?_
     try simp only [go_sem, ↓reduceIte, Nat.reduceEqDiff, Nat.reduceLT, Option.getD_some, Option.getD_none, Int.toNat_zero, List.drop_zero, List.length_take, Int.toNat_natCast, List.length_map]
     repeat (first | (refine And.intro ?_ ?_; · first | (intro m9 hm9; cases hm9) | exact ⟨by omega, .inr trivial, by omega, by omega⟩ | exact ⟨by simp, .inr trivial, by simp; omega, by simp; omega⟩) | refine peel ?_)
     refine hK _ _ _ ?_; clear hK K
     refine awp_reg zs [0, 3, 4, 5, 6] fun K hK => ?_
     try simp only [go_sem, ↓reduceIte, Nat.reduceEqDiff, Nat.reduceLT, Nat.reduceAdd, hI1, qI, Int.toNat_natCast, hnth]
     repeat (first | (refine And.intro ?_ ?_; · first | exact ⟨by omega, .inr trivial, by omega, by omega⟩ | exact ⟨rfl, by decide, by simp [AV.sz, AV.szs, AV.memOK]⟩ | exact ⟨by simp, .inr trivial, by simp; omega, by simp; omega⟩ | (simp; omega)) | refine peel ?_)
     refine callK_use Tryz.func34 rfl rfl rfl ((c_ref3_Clone e hfe _ _)) ?_
     try simp only [go_sem, ↓reduceIte, List.length_take]
     repeat (first | (refine And.intro ?_ ?_; · first | exact ⟨by omega, .inr trivial, by omega, by omega⟩ | exact ⟨rfl, by decide, by simp [AV.sz, AV.szs, AV.memOK]⟩ | exact ⟨by simp, .inr trivial, by simp; omega, by simp; omega⟩ | (simp; omega)) | refine peel ?_)
     refine hK _ _ _ ?_; clear hK K
     refine awp_reg zs [0, 4, 6] fun K hK => ?_
     try simp only [go_sem, ↓reduceIte, Nat.reduceEqDiff, Nat.reduceLT, Nat.reduceAdd, Option.getD_some, Option.getD_none, Int.toNat_natCast, List.length_map]
     repeat (first | (refine And.intro ?_ ?_; · first | exact ⟨by omega, .inr trivial, by omega, by omega⟩ | exact ⟨by simp, .inr trivial, by simp; omega, by simp; omega⟩ | (simp; omega)) | refine peel ?_)
     refine hK _ _ _ ?_; clear hK K
     refine awp_frz_tmp 6 (esz := 7) (els := (m.take a ++ (e :: m.drop a)).map entAV) rfl (by rw [Heap.put_same]; exact congrArg some (congrArg (AObj.arr 3 7) (ins_els m a e ha))) (by simp; omega) ?_
     refine awp_reg1 zs [0, 3, 4] fun K hK => ?_
     try simp only [go_sem, ↓reduceIte, Nat.reduceEqDiff, Nat.reduceLT]
     refine hK _ _ _ ?_; clear hK K
     try simp only [go_sem, ↓reduceIte, Nat.reduceEqDiff]
     refine hK3 _ _ _ ?_
     first | clear hK3 K3 | skip
     refine awp_reg1 zs [0, 3, 4] fun K hK => ?_
     try simp only [go_sem, ↓reduceIte, Nat.reduceEqDiff, Nat.reduceLT]
     refine hK _ _ _ ?_; clear hK K
     try simp only [go_sem, ↓reduceIte, Nat.reduceEqDiff]
     rw [hins] at hd hil
     refine ⟨⟨i + 1, _, by omega, by omega, ?_, by rw [w1 (by omega)], by omega, ?_, hd⟩, by rw [w1 (by omega)]; simp; omega⟩
     · intro x hx; rcases rIns_mem (by rw [hins]; exact hx) with h | h; (exact hmf x h); (rw [h]; exact hfe)
     · intro k hk; first | exact hrest k hk | (have h0 : k ≠ n1 := (by omega); simp [h0, hrest k hk])
  ·skip
   have hge : i = l.length := by simp at hb; omega
   rw [hge, List.drop_length, List.foldl_nil] at hd
   refine awp_exit ?_
   try simp only [go_sem, ↓reduceIte, Nat.reduceEqDiff]
   refine hK1 _ _ _ ?_
   first | clear hK1 K1 | skip
   refine awp_rq zs [2] ?_
   refine awp_ret ?_
   try simp only [go_sem, ↓reduceIte]
   exact ⟨_, rfl, hrest, by rw [← hd]; exact Frz.kl (kls_ents _ _)⟩
theorem ents_frz0 {H : Heap} {k v : Nat} {l : List Ent} (hI : H k = some (.arr v 7 (l.map entAV))) : Frz H 0 (.osl k v 0 l.length) (entsAV l) :=
  .osl hI (Nat.zero_le _) (by simp) (by rw [List.drop_zero, List.take_of_length_le (by simp)]; exact frzL_kl _ (kls_ents l 0))
theorem p_ref3_asked (kI vI : Nat) (s : List Fml) (clock low t vn : Int) (l : List Ent) (hl : l.length < 4611686018427387904) (H : Heap) (n : Nat) (hI : H kI = some (.arr vI 7 (l.map entAV))) : Ret Tryz.prog 39 [schAV s, .int .i64 clock, .int .i64 low, .int .i64 t, .int .i64 vn, .osl kI vI 0 l.length] H n (.int .i64 (rAsked s clock low t vn l)) H n :=
  Ret.lend trivial (.cons (.kl (kl_sch s 0)) (.cons (.kl trivial) (.cons (.kl trivial) (.cons (.kl trivial) (.cons (.kl trivial) (.cons (ents_frz0 hI) .nil)))))) (c_ref3_asked s clock low t vn l hl _ _)
theorem p_ref3_Squash (s : List Fml) (clock low : Int) (major : Bool) (kI vI : Nat) (l : List Ent) (hl : l.length ≤ 1000000000) (hf : ∀ e ∈ l, e.fits) (H : Heap) (n : Nat) (hkI : kI < n) (hI : H kI = some (.arr vI 7 (l.map entAV))) : Ret Tryz.prog 23 [schAV s, .int .i64 clock, .bool major, .int .i64 low, .osl kI vI 0 l.length] H n (.tup [entsAV (rSquashE s clock major low l).1, .int .i64 (rSquashE s clock major low l).2]) H n := by
  refine Ret.fin ?_
  refine acalls_of_awp Tryz.func23 rfl Tryz.ntmps23 (congrArg Array.toList Tryz.results23) (by simp) ?_
  simp only [go_sem]
  refine awp_rq zs [1, 2, 3, 4, 5] ?_
  refine awp_reg zs [1, 2, 3, 4, 5, 12] fun K hK => ?_
  try simp only [go_sem, seval]
  refine callK_use Tryz.func39 rfl rfl rfl ((p_ref3_asked kI vI s clock low 0 1 l (by omega) _ _ ((Heap.put_ne _ _ (by omega)).trans hI))) ?_
  try simp only [go_sem, seval]
  refine hK _ _ _ ?_; clear hK K
  refine awp_seq_k fun K1 hK1 => ?_
  refine awp_rq zs [1, 2, 3, 4, 5, 12, 24] ?_
  refine awp_cnd (fun hb => ?_) (fun hb => ?_)
  ·skip
   have h14 : rAsked s clock low 0 1 l ≠ 0 := by simpa using hb
   have hq : rSquashE s clock major low l = ([], rAsked s clock low 0 1 l) := by unfold rSquashE; rw [if_pos h14]
   refine awp_rq zs [10, 11] ?_
   refine awp_ret ?_
   try simp only [go_sem, seval]
   rw [hq]
   first
   | (refine ⟨_, rfl, ?_, .tup (.cons .nilsl (.cons (.kl trivial) .nil))⟩
      intro k hk; have h0 : k ≠ n := by omega
      simp [Heap.put, h0])
   | exact ⟨_, rfl, hrest, .tup (.cons (by rw [← hd]; exact .osl hHr (by omega) (by simp) (by rw [List.drop_zero, List.take_of_length_le (by simp)]; exact FrzL.kls _ (kls_ents _ _))) (.cons (.kl trivial) .nil))⟩
  ·skip
   have h14 : ¬ rAsked s clock low 0 1 l ≠ 0 := by simpa using hb
   have hq : rSquashE s clock major low l = (rSquash s clock major low (rOrd l), 0) := by unfold rSquashE; rw [if_neg h14]
   have hro := rReady hl hf (by simpa using h14)
   refine awp_skip ?_
   try simp only [go_sem, seval]
   refine hK1 _ _ _ ?_
   first | clear hK1 K1 | skip
   refine awp_reg zs [1, 2, 3, 5, 13] fun K hK => ?_
   try simp only [go_sem, seval]
   refine callK_use Tryz.func38 rfl rfl rfl ((p_ref3_ordered kI vI l hl hf _ _ (by omega) ((Heap.put_ne _ _ (by omega)).trans hI))) ?_
   try simp only [go_sem, seval]
   refine hK _ _ _ ?_; clear hK K
   generalize rOrd l = m at *
   have hml := hro.len
   refine awp_rq zs [1, 2, 3, 5, 13, 14] ?_
   refine awp_seq_k fun K2 hK2 => ?_
   refine awp_adopt_tmp 14 7 rfl ?_
   refine awp_rq zs [1, 2, 3, 5, 13, 14, 15] ?_
   refine awp_block ?_
   refine awp_loop (fun T' H' n' => ∃ (i : Nat) (r : List Ent), i ≤ m.length ∧ r.length ≤ i ∧ T' = tl [(1, .int .i64 clock), (2, .bool major), (3, .int .i64 low), (5, .loc n 0 0 0 []), (13, .sl 7 (m.map entAV)), (14, .osl (n + 1) r.length 0 r.length), (15, .int .i64 i)] ∧ n + 2 ≤ n' ∧ H' n = some (.arr 0 1 [.agg [.sl 3 (s.map famAV)]]) ∧ H' (n + 1) = some (.arr r.length 7 (r.map entAV)) ∧ (∀ k, k < n → H' k = H k) ∧ (m.drop i).foldl (rSqS s clock major low m) r = rSquash s clock major low m) (fun T' _ _ => m.length - iv (T' 15)) ?_ ?_
   ·skip
    refine ⟨0, [], Nat.zero_le _, Nat.zero_le _, rfl, by omega, ?_, ?_, ?_, rfl⟩
    · first | (simp [Heap.put]; done) | (simp [Heap.put]; rfl)
    · first | (simp [Heap.put]; done) | (simp [Heap.put]; rfl)
    · intro k hk; have h0 : k ≠ n := by omega
      have h1 : k ≠ n + 1 := by omega
      simp [Heap.put, h0, h1]
   intro T1 H1 n1
   rintro ⟨i, r, hi, hri, rfl, hn, hHn, hHr, hrest, hd⟩
   refine awp_seq_k fun K3 hK3 => ?_
   refine awp_rq zs [1, 2, 3, 5, 13, 14, 15, 31] ?_
   refine awp_cnd (fun hb => ?_) (fun hb => ?_)
   ·skip
    have hlt : i < m.length := by simpa using hb
    rw [drop_cons m i hlt, List.foldl_cons] at hd
    have hfe : (m.getD i default).fits := (hro.good _ (by simp [List.getD, List.getElem?_eq_getElem hlt])).2.2.1
    have hff := rFate_fits s clock low major m _ hfe
    have hfate := fun H9 n9 => c_ref3_fate s clock low major m hro i hlt H9 n9
    generalize m.getD i default = e at *
    have q1 : (n + 1 = n1) = False := by simp; omega
    have q2 : (n1 = n + 1) = False := by simp; omega
    have q3 : (n = n1) = False := by simp; omega
    have q4 : (n1 = n) = False := by simp; omega
    refine awp_skip ?_
    try simp only [go_sem, seval]
    refine hK3 _ _ _ ?_
    first | clear hK3 K3 | skip
    refine awp_seq_k fun K4 hK4 => ?_
    refine awp_block ?_
    refine awp_reg zs [1, 2, 3, 5, 13, 14, 15, 16, 17] fun K hK => ?_
    try simp only [go_sem, seval, Int.toNat_natCast, hHn]
    repeat (first | (refine And.intro ?_ ?_; · first | exact entAV_sz _ | exact ⟨rfl, by rw [entAV_sz], rfl⟩ | exact ⟨rfl, entAV_sz _, rfl⟩) | refine peel ?_)
    refine callK_use Tryz.func46 rfl rfl rfl ((hfate _ _)) ?_
    try simp only [go_sem, seval, List.getD_cons_zero, List.getD_cons_succ]
    repeat (first | (refine And.intro ?_ ?_; · first | exact entAV_sz _ | exact ⟨rfl, by rw [entAV_sz], rfl⟩ | exact ⟨rfl, entAV_sz _, rfl⟩) | refine peel ?_)
    refine hK _ _ _ ?_; clear hK K
    refine awp_rq zs [1, 2, 3, 5, 13, 14, 15, 16, 45] ?_
    refine awp_cnd (fun hb => ?_) (fun hb => ?_)
    ·skip
     have hs : rSqS s clock major low m r e = r ++ [(rFate s clock major low m e).1] := if_pos (by simpa using hb)
     refine awp_reg1 zs [1, 2, 3, 5, 13, 14, 15] fun K hK => ?_
     try simp only [go_sem, seval]
     repeat (first | (refine And.intro ?_ ?_; · first | exact ⟨rfl, by simp [AV.sz, AV.szs, AV.memOK]⟩ | (simp; omega) | exact ⟨by simp, .inr trivial, by simp; omega, by simp; omega⟩) | refine peel ?_)
     refine callK_use Tryz.func34 rfl rfl rfl ((c_ref3_Clone (rFate s clock major low m e).1 hff _ _)) ?_
     try simp only [go_sem, seval, hHr, q1]
     repeat (first | (refine And.intro ?_ ?_; · first | exact ⟨rfl, by simp [AV.sz, AV.szs, AV.memOK]⟩ | (simp; omega) | exact ⟨by simp, .inr trivial, by simp; omega, by simp; omega⟩) | refine peel ?_)
     refine hK _ _ _ ?_; clear hK K
     try simp only [go_sem, seval]
     refine hK4 _ _ _ ?_
     first | clear hK4 K4 | skip
     refine awp_reg1 zs [1, 2, 3, 5, 13, 14, 15] fun K hK => ?_
     try simp only [go_sem, seval]
     refine hK _ _ _ ?_; clear hK K
     try simp only [go_sem, seval]
     rw [hs] at hd
     refine ⟨⟨i + 1, _, by omega, by first | omega | (simp; omega), by first | (rw [w1 (by omega)]; done) | (rw [w1 (by omega)]; simp; done), by omega, ?_, ?_, ?_, hd⟩, by rw [w1 (by omega)]; simp; omega⟩
     · first | exact hHn | (simp [hHn, q1, q2, q3, q4]; done) | (simp [hHn, q1, q2, q3, q4]; rfl)
     · first | exact hHr | (simp [hHr, q1, q2, q3, q4]; done) | (simp [hHr, q1, q2, q3, q4, List.take_of_length_le]; rfl)
     · intro k hk; have h0 : k ≠ n + 1 := by omega
       have h1 : k ≠ n1 := by omega
       first | exact hrest k hk | simp [h0, h1, hrest k hk]
    ·skip
     have hs : rSqS s clock major low m r e = r := if_neg (by simpa using hb)
     refine awp_skip ?_
     try simp only [go_sem, seval]
     refine hK4 _ _ _ ?_
     first | clear hK4 K4 | skip
     refine awp_reg1 zs [1, 2, 3, 5, 13, 14, 15] fun K hK => ?_
     try simp only [go_sem, seval]
     refine hK _ _ _ ?_; clear hK K
     try simp only [go_sem, seval]
     rw [hs] at hd
     refine ⟨⟨i + 1, _, by omega, by first | omega | (simp; omega), by first | (rw [w1 (by omega)]; done) | (rw [w1 (by omega)]; simp; done), by omega, ?_, ?_, ?_, hd⟩, by rw [w1 (by omega)]; simp; omega⟩
     · first | exact hHn | (simp [hHn, q1, q2, q3, q4]; done) | (simp [hHn, q1, q2, q3, q4]; rfl)
     · first | exact hHr | (simp [hHr, q1, q2, q3, q4]; done) | (simp [hHr, q1, q2, q3, q4, List.take_of_length_le]; rfl)
     · intro k hk; have h0 : k ≠ n + 1 := by omega
       have h1 : k ≠ n1 := by omega
       first | exact hrest k hk | simp [h0, h1, hrest k hk]
   ·skip
    have hge : i = m.length := by simp at hb; omega
    rw [hge, List.drop_length, List.foldl_nil] at hd
    refine awp_exit ?_
    try simp only [go_sem, seval]
    refine hK2 _ _ _ ?_
    first | clear hK2 K2 | skip
    refine awp_rq zs [10, 11] ?_
    refine awp_ret ?_
    try simp only [go_sem, seval]
    rw [hq]
    first
    | (refine ⟨_, rfl, ?_, .tup (.cons .nilsl (.cons (.kl trivial) .nil))⟩
       intro k hk; have h0 : k ≠ n := by omega
       simp [Heap.put, h0])
    | exact ⟨_, rfl, hrest, .tup (.cons (by rw [← hd]; exact .osl hHr (by omega) (by simp) (by rw [List.drop_zero, List.take_of_length_le (by simp)]; exact FrzL.kls _ (kls_ents _ _))) (.cons (.kl trivial) .nil))⟩
end Go.Proofs.YtijhkfhflpmajaaGreat
namespace Go.Proofs.YtijhkfhflpmajaaGreat
open Go Go.Sx Go.Rt Go.Proofs
def dropAV (d : Drp) : AV := .agg [.int .i64 d.o, .int .i64 d.m, .int .i64 d.x, .int .i64 d.a, .int .i64 d.k]
theorem p_ref3_Dropped (s : List Fml) (clock low : Int) (major : Bool) (kI vI : Nat) (l : List Ent) (hl : l.length ≤ 1000000000) (hf : ∀ e ∈ l, e.fits) (ha : rAsked s clock low 0 1 l = 0) (H : Heap) (n : Nat) (hkI : kI < n) (hI : H kI = some (.arr vI 7 (l.map entAV))) : Ret Tryz.prog 90 [schAV s, .int .i64 clock, .bool major, .int .i64 low, .osl kI vI 0 l.length] H n (dropAV (dropE s clock major low l)) H n := by
  have hro := rReady hl hf ha
  have hml := hro.len
  have hll : (rOrd l).length ≤ l.length := by unfold rOrd; simpa using (rOrd_ok2 l []).1
  have hwr0 : IntKind.i64.wrap ((l.length : Int) - ((rOrd l).length : Nat)) = (l.length : Int) - (rOrd l).length := w64 (by omega) (by omega)
  have hdef : dropE s clock major low l = Drp.adds ⟨(l.length : Int) - (rOrd l).length, 0, 0, 0, 0⟩ ((rOrd l).map fun e => (rFate s clock major low (rOrd l) e).2) := rfl
  have hHd' : (0 : Nat) = 0 := rfl
  have q1 : (0 : Nat) = 0 := rfl
  have q2 : (0 : Nat) = 0 := rfl
  have w1' : (0 : Nat) = 0 := rfl
  have w2' : (0 : Nat) = 0 := rfl
  have w3' : (0 : Nat) = 0 := rfl
  have w4' : (0 : Nat) = 0 := rfl
  have w5' : (0 : Nat) = 0 := rfl
  refine Ret.fin ?_
  refine acalls_of_awp Tryz.func90 rfl Tryz.ntmps90 (congrArg Array.toList Tryz.results90) (by simp) ?_
  simp only [go_sem]
  refine awp_reg zs [1, 2, 3, 4, 5, 10] fun K hK => ?_
  try simp only [go_sem, seval, hHd', q1, q2, w1', w2', w3', w4', w5']
  refine hK _ _ _ ?_; clear hK K
  refine awp_reg zs [1, 2, 3, 4, 5, 10, 11] fun K hK => ?_
  try simp only [go_sem, seval, hHd', q1, q2, w1', w2', w3', w4', w5']
  refine callK_use Tryz.func38 rfl rfl rfl ((p_ref3_ordered kI vI l hl hf _ _ (by omega) (by rw [Heap.put_ne _ _ (by omega), Heap.put_ne _ _ (by omega)]; exact hI))) ?_
  try simp only [go_sem, seval, hHd', q1, q2, w1', w2', w3', w4', w5']
  refine hK _ _ _ ?_; clear hK K
  refine awp_reg zs [1, 2, 3, 5, 10, 11, 12] fun K hK => ?_
  try simp only [go_sem, seval, hHd', q1, q2, w1', w2', w3', w4', w5', hwr0, List.length_map]
  repeat refine peel ?_
  refine hK _ _ _ ?_; clear hK K
  refine awp_seq_k fun K1 hK1 => ?_
  generalize rOrd l = m at *
  refine awp_reg zs [1, 2, 3, 5, 10, 11, 12, 13] fun K hK => ?_
  try simp only [go_sem, seval, hHd', q1, q2, w1', w2', w3', w4', w5']
  refine hK _ _ _ ?_; clear hK K
  refine awp_block ?_
  refine awp_loop (fun T' H' n' => ∃ (i : Nat) (d : Drp), i ≤ m.length ∧ okD d (l.length + i) ∧ T' = tl [(1, .int .i64 clock), (2, .bool major), (3, .int .i64 low), (5, .loc n 0 0 0 []), (10, .loc (n + 1) 0 0 0 []), (11, .sl 7 (m.map entAV)), (12, .loc (n + 2) 0 0 0 []), (13, .int .i64 i)] ∧ n + 3 ≤ n' ∧ H' n = some (.arr 0 1 [.agg [.sl 3 (s.map famAV)]]) ∧ H' (n + 1) = some (.arr 0 5 [.agg [.int .i64 0, .int .i64 0, .int .i64 0, .int .i64 0, .int .i64 0]]) ∧ H' (n + 2) = some (.arr 0 5 [dropAV d]) ∧ (∀ k, k < n → H' k = H k) ∧ d.adds ((m.drop i).map fun e => (rFate s clock major low m e).2) = dropE s clock major low l) (fun T' _ _ => m.length - iv (T' 13)) ?_ ?_
  ·skip
   refine ⟨0, ⟨(l.length : Int) - m.length, 0, 0, 0, 0⟩, Nat.zero_le _, by refine ⟨?_, ?_, ?_, ?_, ?_⟩ <;> (try simp only) <;> omega, rfl, by omega, ?_, ?_, ?_, ?_, by rw [hdef, List.drop_zero]⟩
   · first | (simp [Heap.put]; done) | (simp [Heap.put]; rfl)
   · first | (simp [Heap.put]; done) | (simp [Heap.put]; rfl)
   · first | (simp [Heap.put, dropAV]; done) | (simp [Heap.put, dropAV]; rfl)
   · intro k hk; have h0 : k ≠ n := by omega
     have h1 : k ≠ n + 1 := by omega
     have h2 : k ≠ n + 2 := by omega
     simp [Heap.put, h0, h1, h2]
  intro T1 H1 n1
  rintro ⟨i, d, hi, hok, rfl, hn, hHn, hHe, hHd, hrest, hd⟩
  refine awp_seq_k fun K2 hK2 => ?_
  refine awp_reg zs [1, 2, 3, 5, 10, 11, 12, 13, 27] fun K hK => ?_
  try simp only [go_sem, seval, hHd', q1, q2, w1', w2', w3', w4', w5']
  refine hK _ _ _ ?_; clear hK K
  refine awp_cnd (fun hb => ?_) (fun hb => ?_)
  ·skip
   have hlt : i < m.length := by simpa using hb
   rw [drop_cons m i hlt, List.map_cons, Drp.adds_cons] at hd
   have hfate := fun H9 n9 => c_ref3_fate s clock low major m hro i hlt H9 n9
   have hok2 := hok.add (rFate s clock major low m (m.getD i default)).2
   generalize m.getD i default = e at *
   have q1 : (n + 2 = n1) = False := by simp; omega
   have q2 : (n1 = n + 2) = False := by simp; omega
   obtain ⟨⟨a1, b1⟩, ⟨a2, b2⟩, ⟨a3, b3⟩, ⟨a4, b4⟩, ⟨a5, b5⟩⟩ := id hok
   have w1' : IntKind.i64.wrap (d.o + 1) = d.o + 1 := w64 (by omega) (by omega)
   have w2' : IntKind.i64.wrap (d.m + 1) = d.m + 1 := w64 (by omega) (by omega)
   have w3' : IntKind.i64.wrap (d.x + 1) = d.x + 1 := w64 (by omega) (by omega)
   have w4' : IntKind.i64.wrap (d.a + 1) = d.a + 1 := w64 (by omega) (by omega)
   have w5' : IntKind.i64.wrap (d.k + 1) = d.k + 1 := w64 (by omega) (by omega)
   have hHd' := hHd
   simp only [dropAV] at hHd'
   refine awp_skip ?_
   try simp only [go_sem, seval, hHd', q1, q2, w1', w2', w3', w4', w5']
   refine hK2 _ _ _ ?_
   first | clear hK2 K2 | skip
   refine awp_seq_k fun K3 hK3 => ?_
   refine awp_block ?_
   refine awp_reg zs [1, 2, 3, 5, 10, 11, 12, 13, 15] fun K hK => ?_
   try simp only [go_sem, seval, hHd', q1, q2, w1', w2', w3', w4', w5', hHn]
   refine callK_use Tryz.func46 rfl rfl rfl ((hfate _ _)) ?_
   try simp only [go_sem, seval, hHd', q1, q2, w1', w2', w3', w4', w5', hHn]
   refine hK _ _ _ ?_; clear hK K
   generalize (rFate s clock major low m e).2 = wy at *
   refine awp_reg zs [1, 2, 3, 5, 10, 11, 12, 13, 40] fun K hK => ?_
   try simp only [go_sem, seval, hHd', q1, q2, w1', w2', w3', w4', w5']
   refine hK _ _ _ ?_; clear hK K
   refine awp_block ?_
   refine awp_reg zs [1, 2, 3, 5, 10, 11, 12, 13, 40, 41] fun K hK => ?_
   try simp only [go_sem, seval, hHd', q1, q2, w1', w2', w3', w4', w5']
   refine hK _ _ _ ?_; clear hK K
   refine awp_cnd (fun hb => ?_) (fun hb => ?_)
   ·skip
    have hwy : wy = 1 := by simpa using hb
    refine awp_reg1 zs [1, 2, 3, 5, 10, 11, 12, 13] fun K hK => ?_
    try simp only [go_sem, seval, hHd', q1, q2, w1', w2', w3', w4', w5']
    refine hK _ _ _ ?_; clear hK K
    try simp only [go_sem, seval, hHd', q1, q2, w1', w2', w3', w4', w5']
    refine hK3 _ _ _ ?_
    first | clear hK3 K3 | skip
    refine awp_reg1 zs [1, 2, 3, 5, 10, 11, 12, 13] fun K hK => ?_
    try simp only [go_sem, seval, hHd', q1, q2, w1', w2', w3', w4', w5']
    refine hK _ _ _ ?_; clear hK K
    try simp only [go_sem, seval, hHd', q1, q2, w1', w2', w3', w4', w5']
    refine ⟨⟨i + 1, d.add wy, by omega, by rw [show (l.length : Int) + ((i + 1 : Nat) : Int) = (l.length : Int) + i + 1 by omega]; exact hok2, by rw [w1 (by omega)], by omega, ?_, ?_, ?_, ?_, hd⟩, by rw [w1 (by omega)]; simp; omega⟩
    · have h0 : n ≠ n + 2 := by omega
      have h9 : n ≠ n1 := by omega
      simp [h0, h9, hHn]
    · have h0 : n + 1 ≠ n + 2 := by omega
      have h9 : n + 1 ≠ n1 := by omega
      simp [h0, h9, hHe]
    · first | (simp [q1, hHd, dropAV, Drp.add, isW, hwy]; done) | (simp [q1, hHd, dropAV, Drp.add, isW, h1, h2, h3, h4, h5]; done)
    · intro k hk; have h0 : k ≠ n + 2 := by omega
      have h9 : k ≠ n1 := by omega
      simp [h0, h9, hrest k hk]
   ·skip
    have h1 : ¬ wy = 1 := by simpa using hb
    refine awp_reg zs [1, 2, 3, 5, 10, 11, 12, 13, 40, 47] fun K hK => ?_
    try simp only [go_sem, seval, hHd', q1, q2, w1', w2', w3', w4', w5']
    refine hK _ _ _ ?_; clear hK K
    refine awp_cnd (fun hb => ?_) (fun hb => ?_)
    ·skip
     have hwy : wy = 2 := by simpa using hb
     refine awp_reg1 zs [1, 2, 3, 5, 10, 11, 12, 13] fun K hK => ?_
     try simp only [go_sem, seval, hHd', q1, q2, w1', w2', w3', w4', w5']
     refine hK _ _ _ ?_; clear hK K
     try simp only [go_sem, seval, hHd', q1, q2, w1', w2', w3', w4', w5']
     refine hK3 _ _ _ ?_
     first | clear hK3 K3 | skip
     refine awp_reg1 zs [1, 2, 3, 5, 10, 11, 12, 13] fun K hK => ?_
     try simp only [go_sem, seval, hHd', q1, q2, w1', w2', w3', w4', w5']
     refine hK _ _ _ ?_; clear hK K
     try simp only [go_sem, seval, hHd', q1, q2, w1', w2', w3', w4', w5']
     refine ⟨⟨i + 1, d.add wy, by omega, by rw [show (l.length : Int) + ((i + 1 : Nat) : Int) = (l.length : Int) + i + 1 by omega]; exact hok2, by rw [w1 (by omega)], by omega, ?_, ?_, ?_, ?_, hd⟩, by rw [w1 (by omega)]; simp; omega⟩
     · have h0 : n ≠ n + 2 := by omega
       have h9 : n ≠ n1 := by omega
       simp [h0, h9, hHn]
     · have h0 : n + 1 ≠ n + 2 := by omega
       have h9 : n + 1 ≠ n1 := by omega
       simp [h0, h9, hHe]
     · first | (simp [q1, hHd, dropAV, Drp.add, isW, hwy]; done) | (simp [q1, hHd, dropAV, Drp.add, isW, h1, h2, h3, h4, h5]; done)
     · intro k hk; have h0 : k ≠ n + 2 := by omega
       have h9 : k ≠ n1 := by omega
       simp [h0, h9, hrest k hk]
    ·skip
     have h2 : ¬ wy = 2 := by simpa using hb
     refine awp_reg zs [1, 2, 3, 5, 10, 11, 12, 13, 40, 53] fun K hK => ?_
     try simp only [go_sem, seval, hHd', q1, q2, w1', w2', w3', w4', w5']
     refine hK _ _ _ ?_; clear hK K
     refine awp_cnd (fun hb => ?_) (fun hb => ?_)
     ·skip
      have hwy : wy = 3 := by simpa using hb
      refine awp_reg1 zs [1, 2, 3, 5, 10, 11, 12, 13] fun K hK => ?_
      try simp only [go_sem, seval, hHd', q1, q2, w1', w2', w3', w4', w5']
      refine hK _ _ _ ?_; clear hK K
      try simp only [go_sem, seval, hHd', q1, q2, w1', w2', w3', w4', w5']
      refine hK3 _ _ _ ?_
      first | clear hK3 K3 | skip
      refine awp_reg1 zs [1, 2, 3, 5, 10, 11, 12, 13] fun K hK => ?_
      try simp only [go_sem, seval, hHd', q1, q2, w1', w2', w3', w4', w5']
      refine hK _ _ _ ?_; clear hK K
      try simp only [go_sem, seval, hHd', q1, q2, w1', w2', w3', w4', w5']
      refine ⟨⟨i + 1, d.add wy, by omega, by rw [show (l.length : Int) + ((i + 1 : Nat) : Int) = (l.length : Int) + i + 1 by omega]; exact hok2, by rw [w1 (by omega)], by omega, ?_, ?_, ?_, ?_, hd⟩, by rw [w1 (by omega)]; simp; omega⟩
      · have h0 : n ≠ n + 2 := by omega
        have h9 : n ≠ n1 := by omega
        simp [h0, h9, hHn]
      · have h0 : n + 1 ≠ n + 2 := by omega
        have h9 : n + 1 ≠ n1 := by omega
        simp [h0, h9, hHe]
      · first | (simp [q1, hHd, dropAV, Drp.add, isW, hwy]; done) | (simp [q1, hHd, dropAV, Drp.add, isW, h1, h2, h3, h4, h5]; done)
      · intro k hk; have h0 : k ≠ n + 2 := by omega
        have h9 : k ≠ n1 := by omega
        simp [h0, h9, hrest k hk]
     ·skip
      have h3 : ¬ wy = 3 := by simpa using hb
      refine awp_reg zs [1, 2, 3, 5, 10, 11, 12, 13, 40, 59] fun K hK => ?_
      try simp only [go_sem, seval, hHd', q1, q2, w1', w2', w3', w4', w5']
      refine hK _ _ _ ?_; clear hK K
      refine awp_cnd (fun hb => ?_) (fun hb => ?_)
      ·skip
       have hwy : wy = 4 := by simpa using hb
       refine awp_reg1 zs [1, 2, 3, 5, 10, 11, 12, 13] fun K hK => ?_
       try simp only [go_sem, seval, hHd', q1, q2, w1', w2', w3', w4', w5']
       refine hK _ _ _ ?_; clear hK K
       try simp only [go_sem, seval, hHd', q1, q2, w1', w2', w3', w4', w5']
       refine hK3 _ _ _ ?_
       first | clear hK3 K3 | skip
       refine awp_reg1 zs [1, 2, 3, 5, 10, 11, 12, 13] fun K hK => ?_
       try simp only [go_sem, seval, hHd', q1, q2, w1', w2', w3', w4', w5']
       refine hK _ _ _ ?_; clear hK K
       try simp only [go_sem, seval, hHd', q1, q2, w1', w2', w3', w4', w5']
       refine ⟨⟨i + 1, d.add wy, by omega, by rw [show (l.length : Int) + ((i + 1 : Nat) : Int) = (l.length : Int) + i + 1 by omega]; exact hok2, by rw [w1 (by omega)], by omega, ?_, ?_, ?_, ?_, hd⟩, by rw [w1 (by omega)]; simp; omega⟩
       · have h0 : n ≠ n + 2 := by omega
         have h9 : n ≠ n1 := by omega
         simp [h0, h9, hHn]
       · have h0 : n + 1 ≠ n + 2 := by omega
         have h9 : n + 1 ≠ n1 := by omega
         simp [h0, h9, hHe]
       · first | (simp [q1, hHd, dropAV, Drp.add, isW, hwy]; done) | (simp [q1, hHd, dropAV, Drp.add, isW, h1, h2, h3, h4, h5]; done)
       · intro k hk; have h0 : k ≠ n + 2 := by omega
         have h9 : k ≠ n1 := by omega
         simp [h0, h9, hrest k hk]
      ·skip
       have h4 : ¬ wy = 4 := by simpa using hb
       refine awp_reg zs [1, 2, 3, 5, 10, 11, 12, 13, 65] fun K hK => ?_
       try simp only [go_sem, seval, hHd', q1, q2, w1', w2', w3', w4', w5']
       refine hK _ _ _ ?_; clear hK K
       refine awp_cnd (fun hb => ?_) (fun hb => ?_)
       ·skip
        have hwy : wy = 5 := by simpa using hb
        refine awp_reg1 zs [1, 2, 3, 5, 10, 11, 12, 13] fun K hK => ?_
        try simp only [go_sem, seval, hHd', q1, q2, w1', w2', w3', w4', w5']
        refine hK _ _ _ ?_; clear hK K
        try simp only [go_sem, seval, hHd', q1, q2, w1', w2', w3', w4', w5']
        refine hK3 _ _ _ ?_
        first | clear hK3 K3 | skip
        refine awp_reg1 zs [1, 2, 3, 5, 10, 11, 12, 13] fun K hK => ?_
        try simp only [go_sem, seval, hHd', q1, q2, w1', w2', w3', w4', w5']
        refine hK _ _ _ ?_; clear hK K
        try simp only [go_sem, seval, hHd', q1, q2, w1', w2', w3', w4', w5']
        refine ⟨⟨i + 1, d.add wy, by omega, by rw [show (l.length : Int) + ((i + 1 : Nat) : Int) = (l.length : Int) + i + 1 by omega]; exact hok2, by rw [w1 (by omega)], by omega, ?_, ?_, ?_, ?_, hd⟩, by rw [w1 (by omega)]; simp; omega⟩
        · have h0 : n ≠ n + 2 := by omega
          have h9 : n ≠ n1 := by omega
          simp [h0, h9, hHn]
        · have h0 : n + 1 ≠ n + 2 := by omega
          have h9 : n + 1 ≠ n1 := by omega
          simp [h0, h9, hHe]
        · first | (simp [q1, hHd, dropAV, Drp.add, isW, hwy]; done) | (simp [q1, hHd, dropAV, Drp.add, isW, h1, h2, h3, h4, h5]; done)
        · intro k hk; have h0 : k ≠ n + 2 := by omega
          have h9 : k ≠ n1 := by omega
          simp [h0, h9, hrest k hk]
       ·skip
        have h5 : ¬ wy = 5 := by simpa using hb
        refine awp_skip ?_
        try simp only [go_sem, seval, hHd', q1, q2, w1', w2', w3', w4', w5']
        refine hK3 _ _ _ ?_
        first | clear hK3 K3 | skip
        refine awp_reg1 zs [1, 2, 3, 5, 10, 11, 12, 13] fun K hK => ?_
        try simp only [go_sem, seval, hHd', q1, q2, w1', w2', w3', w4', w5']
        refine hK _ _ _ ?_; clear hK K
        try simp only [go_sem, seval, hHd', q1, q2, w1', w2', w3', w4', w5']
        refine ⟨⟨i + 1, d.add wy, by omega, by rw [show (l.length : Int) + ((i + 1 : Nat) : Int) = (l.length : Int) + i + 1 by omega]; exact hok2, by rw [w1 (by omega)], by omega, ?_, ?_, ?_, ?_, hd⟩, by rw [w1 (by omega)]; simp; omega⟩
        · have h0 : n ≠ n + 2 := by omega
          have h9 : n ≠ n1 := by omega
          simp [h0, h9, hHn]
        · have h0 : n + 1 ≠ n + 2 := by omega
          have h9 : n + 1 ≠ n1 := by omega
          simp [h0, h9, hHe]
        · first | (simp [q1, hHd, dropAV, Drp.add, isW, hwy]; done) | (simp [q1, hHd, dropAV, Drp.add, isW, h1, h2, h3, h4, h5]; done)
        · intro k hk; have h0 : k ≠ n + 2 := by omega
          have h9 : k ≠ n1 := by omega
          simp [h0, h9, hrest k hk]
  ·skip
   have hge : i = m.length := by simp at hb; omega
   rw [hge, List.drop_length, List.map_nil, Drp.adds_nil] at hd
   subst hd
   have hHd' := hHd
   simp only [dropAV] at hHd'
   refine awp_exit ?_
   try simp only [go_sem, seval, hHd', q1, q2, w1', w2', w3', w4', w5']
   refine hK1 _ _ _ ?_
   first | clear hK1 K1 | skip
   refine awp_reg zs [10] fun K hK => ?_
   try simp only [go_sem, seval, hHd', q1, q2, w1', w2', w3', w4', w5', hHd', hHe]
   refine hK _ _ _ ?_; clear hK K
   refine awp_ret ?_
   try simp only [go_sem, seval, hHd', q1, q2, w1', w2', w3', w4', w5']
   refine ⟨_, rfl, fun k hk => ?_, .kl (by simp [AV.kl, AV.kls])⟩
   have h0 : k ≠ n + 1 := by omega
   simp [h0, hrest k hk]
end Go.Proofs.YtijhkfhflpmajaaGreat