/- Own layer: walks through the document's answer of layer 3: what is visible, read, left, the top. Of the program; no condition. -/
import Derived.Test.YtijhkfhflpmajaaGreatRG
set_option linter.unusedSimpArgs false
set_option linter.unusedVariables false
namespace Go.Proofs.YtijhkfhflpmajaaGreat
open Go Go.Sx Go.Rt Go.Proofs
structure ROk (s : List Fml) (m : List Ent) : Prop where
  len : m.length ≤ 1000000000
  ttl : ∀ f ∈ s, 0 ≤ f.ttl ∧ f.ttl ≤ 1099511627776
  good : ∀ x ∈ m, goodE s x
theorem ROk.lt {s : List Fml} {m : List Ent} (h : ROk s m) : m.length < 4611686018427387904 := by have := h.len; omega
theorem c_ref3_visible (s : List Fml) (clock : Int) (m : List Ent) (hr : ROk s m) (H : Heap) (n : Nat) : Ret Tryz.prog 40 [schAV s, .int .i64 clock, entsAV m] H n (entsAV (rVisible s clock m)) H n := by
  have hl := hr.len
  refine Ret.fin ?_
  refine acalls_of_awp Tryz.func40 rfl Tryz.ntmps40 (congrArg Array.toList Tryz.results40) (by simp) ?_
  simp only [go_sem]
  refine awp_rq zs [1, 2, 3] ?_
  refine awp_rq zs [1, 2, 3, 7] ?_
  refine awp_seq_k fun K1 hK1 => ?_
  refine awp_adopt_tmp 7 7 rfl ?_
  refine awp_rq zs [1, 2, 3, 7, 8] ?_
  refine awp_block ?_
  refine awp_loop (fun T' H' n' => ∃ (i : Nat) (v : List Ent), i ≤ m.length ∧ v.length ≤ i ∧ T' = tl [(1, .int .i64 clock), (2, .sl 7 (m.map entAV)), (3, .loc n 0 0 0 []), (7, .osl (n + 1) v.length 0 v.length), (8, .int .i64 i)] ∧ n + 2 ≤ n' ∧ H' n = some (.arr 0 1 [.agg [.sl 3 (s.map famAV)]]) ∧ H' (n + 1) = some (.arr v.length 7 (v.map entAV)) ∧ (∀ k, k < n → H' k = H k) ∧ (m.drop i).foldl (rVisS s clock m) v = rVisible s clock m) (fun T' _ _ => m.length - iv (T' 8)) ?_ ?_
  ·skip
   refine ⟨0, [], Nat.zero_le _, Nat.zero_le _, rfl, by omega, ?_, ?_, ?_, rfl⟩
   · first | (simp [Heap.put]; done) | (simp [Heap.put]; rfl)
   · first | (simp [Heap.put]; done) | (simp [Heap.put]; rfl)
   · intro k hk; have h0 : k ≠ n := by omega
     have h1 : k ≠ n + 1 := by omega
     simp [Heap.put, h0, h1]
  intro T1 H1 n1
  rintro ⟨i, v, hi, hvi, rfl, hn, hHn, hHv, hrest, hd⟩
  refine awp_seq_k fun K2 hK2 => ?_
  refine awp_rq zs [1, 2, 3, 7, 8, 15] ?_
  refine awp_cnd (fun hb => ?_) (fun hb => ?_)
  ·skip
   have hlt : i < m.length := by simpa using hb
   rw [drop_cons m i hlt, List.foldl_cons] at hd
   have hnth : nth (m.map entAV) i = entAV (m.getD i default) := nth_map entAV m i hlt
   have hgx : goodE s (m.getD i default) := hr.good _ (by simp [List.getD, List.getElem?_eq_getElem hlt])
   generalize m.getD i default = x at *
   have hfn := fam_nth s hgx.1 hgx.2.1
   have hg1 := hgx.1
   have hg2 := hgx.2.1
   have hfx := hgx.2.2.1
   refine awp_skip ?_
   try simp only [go_sem, seval]
   refine hK2 _ _ _ ?_
   first | clear hK2 K2 | skip
   refine awp_seq_k fun K3 hK3 => ?_
   refine awp_block ?_
   refine awp_seq_k fun K4 hK4 => ?_
   refine awp_reg zs [1, 2, 3, 7, 8, 23] fun K hK => ?_
   try simp only [go_sem, seval, Int.toNat_natCast, hnth]
   repeat refine peel ?_
   refine hK _ _ _ ?_; clear hK K
   refine awp_cnd (fun hb => ?_) (fun hb => ?_)
   ·skip
    have h23 : (x.kind == 1) = false := by simpa using hb
    have hs : rVisS s clock m v x = v := if_neg (by unfold rVisX; rw [h23]; simp)
    refine awp_exit ?_
    try simp only [go_sem, seval]
    refine hK3 _ _ _ ?_
    first | clear hK3 K3 | skip
    refine awp_reg1 zs [1, 2, 3, 7, 8] fun K hK => ?_
    try simp only [go_sem, seval]
    repeat refine peel ?_
    refine hK _ _ _ ?_; clear hK K
    try simp only [go_sem, seval]
    rw [hs] at hd
    refine ⟨⟨i + 1, _, by omega, by first | omega | (simp; omega), by first | (rw [w1 (by omega)]; done) | (rw [w1 (by omega)]; simp; done), by omega, ?_, ?_, ?_, hd⟩, by rw [w1 (by omega)]; simp; omega⟩
    · first | exact hHn | (simp [hHn]; done) | (simp [hHn]; rfl)
    · first | exact hHv | (simp [hHv]; done) | (simp [hHv, List.take_of_length_le]; rfl)
    · intro k hk; have h0 : k ≠ n + 1 := by omega
      first | exact hrest k hk | simp [h0, hrest k hk]
   ·skip
    have h23 : (x.kind == 1) = true := by simpa using hb
    refine awp_skip ?_
    try simp only [go_sem, seval]
    refine hK4 _ _ _ ?_
    first | clear hK4 K4 | skip
    refine awp_reg zs [1, 2, 3, 7, 8, 10] fun K hK => ?_
    try simp only [go_sem, seval, Int.toNat_natCast, hnth]
    repeat (first | (refine And.intro ?_ ?_; · first | (simp; omega)) | refine peel ?_)
    refine callK_use Tryz.func51 rfl rfl rfl ((c_ref3_group m x hr.lt _ _)) ?_
    try simp only [go_sem, seval, Int.toNat_natCast, hnth]
    repeat (first | (refine And.intro ?_ ?_; · first | (simp; omega)) | refine peel ?_)
    refine hK _ _ _ ?_; clear hK K
    refine awp_drw rfl zs [1, 2, 3, 7, 8, 10, 11] [.q, .m, .m, .m, .m, .q, .q, .c, .q] (by kernel_rfl) (fun _ _ _ _ _ h => h) fun K hK => ?_
    try simp only [go_sem, seval, Int.toNat_natCast, hnth, hHn]
    repeat (first | (refine And.intro ?_ ?_; · first | (simp; omega)) | refine peel ?_)
    refine callQG_use Tryz.func52 rfl rfl rfl (fun _ n => (c_ref3_in s clock m x hr.lt hr.ttl hgx _ _)) ?_
    try simp only [go_sem, seval, Int.toNat_natCast, hnth, hHn]
    repeat (first | (refine And.intro ?_ ?_; · first | (simp; omega)) | refine peel ?_)
    refine hK _ _ _ ?_; clear hK K
    refine awp_drw rfl zs [1, 2, 3, 7, 8, 65] [.m, .m, .m, .q, .m, .q, .m, .m, .m, .m, .q, .q, .c, .q, .q, .m, .m, .q, .q, .q, .q, .q, .q, .q, .q] (by kernel_rfl) (fun _ _ _ _ _ h => h) fun K hK => ?_
    try simp only [go_sem, seval, Int.toNat_natCast, hnth, hHn, hfn]
    repeat (first | (refine And.intro ?_ ?_; · first | (intro _; first | omega | (simp; omega) | (exact ⟨by omega, by simp; omega⟩)) | (simp; omega)) | refine peel ?_)
    refine callQG_use Tryz.func71 rfl rfl rfl (fun _ n => (c_ref3_rank s clock m x hr.lt hr.ttl hr.good _ _)) ?_
    try simp only [go_sem, seval, Int.toNat_natCast, hnth, hHn, hfn]
    repeat (first | (refine And.intro ?_ ?_; · first | (intro _; first | omega | (simp; omega) | (exact ⟨by omega, by simp; omega⟩)) | (simp; omega)) | refine peel ?_)
    refine hK _ _ _ ?_; clear hK K
    refine awp_cnd (fun hb => ?_) (fun hb => ?_)
    ·skip
     have h65 : rVisX s clock m x = true := by unfold rVisX; simp only [cond_and] at hb; rw [h23]; exact hb
     have hs : rVisS s clock m v x = v ++ [x] := if_pos h65
     refine awp_reg1 zs [1, 2, 3, 7, 8] fun K hK => ?_
     try simp only [go_sem, seval, Int.toNat_natCast, hnth, hHv]
     repeat (first | (refine And.intro ?_ ?_; · first | exact ⟨rfl, by simp [AV.sz, AV.szs, AV.memOK]⟩ | (simp; omega) | exact ⟨by simp, .inr trivial, by simp; omega, by simp; omega⟩) | refine peel ?_)
     refine callK_use Tryz.func34 rfl rfl rfl ((c_ref3_Clone x hfx _ _)) ?_
     try simp only [go_sem, seval, Int.toNat_natCast, hnth, hHv]
     repeat (first | (refine And.intro ?_ ?_; · first | exact ⟨rfl, by simp [AV.sz, AV.szs, AV.memOK]⟩ | (simp; omega) | exact ⟨by simp, .inr trivial, by simp; omega, by simp; omega⟩) | refine peel ?_)
     refine hK _ _ _ ?_; clear hK K
     try simp only [go_sem, seval]
     refine hK3 _ _ _ ?_
     first | clear hK3 K3 | skip
     refine awp_reg1 zs [1, 2, 3, 7, 8] fun K hK => ?_
     try simp only [go_sem, seval]
     repeat refine peel ?_
     refine hK _ _ _ ?_; clear hK K
     try simp only [go_sem, seval]
     rw [hs] at hd
     refine ⟨⟨i + 1, _, by omega, by first | omega | (simp; omega), by first | (rw [w1 (by omega)]; done) | (rw [w1 (by omega)]; simp; done), by omega, ?_, ?_, ?_, hd⟩, by rw [w1 (by omega)]; simp; omega⟩
     · first | exact hHn | (simp [hHn]; done) | (simp [hHn]; rfl)
     · first | exact hHv | (simp [hHv]; done) | (simp [hHv, List.take_of_length_le]; rfl)
     · intro k hk; have h0 : k ≠ n + 1 := by omega
       first | exact hrest k hk | simp [h0, hrest k hk]
    ·skip
     have h65 : rVisX s clock m x = false := by unfold rVisX; simp only [cond_and] at hb; rw [h23]; exact hb
     have hs : rVisS s clock m v x = v := if_neg (by rw [h65]; decide)
     refine awp_skip ?_
     try simp only [go_sem, seval]
     refine hK3 _ _ _ ?_
     first | clear hK3 K3 | skip
     refine awp_reg1 zs [1, 2, 3, 7, 8] fun K hK => ?_
     try simp only [go_sem, seval]
     repeat refine peel ?_
     refine hK _ _ _ ?_; clear hK K
     try simp only [go_sem, seval]
     rw [hs] at hd
     refine ⟨⟨i + 1, _, by omega, by first | omega | (simp; omega), by first | (rw [w1 (by omega)]; done) | (rw [w1 (by omega)]; simp; done), by omega, ?_, ?_, ?_, hd⟩, by rw [w1 (by omega)]; simp; omega⟩
     · first | exact hHn | (simp [hHn]; done) | (simp [hHn]; rfl)
     · first | exact hHv | (simp [hHv]; done) | (simp [hHv, List.take_of_length_le]; rfl)
     · intro k hk; have h0 : k ≠ n + 1 := by omega
       first | exact hrest k hk | simp [h0, hrest k hk]
  ·skip
   have hge : i = m.length := by simp at hb; omega
   rw [hge, List.drop_length, List.foldl_nil] at hd
   refine awp_exit ?_
   try simp only [go_sem, seval]
   refine hK1 _ _ _ ?_
   first | clear hK1 K1 | skip
   refine awp_rq zs [6] ?_
   refine awp_ret ?_
   try simp only [go_sem, seval]
   exact ⟨_, rfl, hrest, by rw [← hd]; exact .osl hHv (by omega) (by simp) (by rw [List.drop_zero, List.take_of_length_le (by simp)]; exact FrzL.kls _ (kls_ents _ _))⟩
theorem rOrd_ok2 : ∀ (l m : List Ent), (l.foldl rIns m).length ≤ m.length + l.length ∧ ∀ x ∈ l.foldl rIns m, x ∈ m ∨ x ∈ l
  | [], m => ⟨by simp, fun x hx => .inl hx⟩
  | e :: l, m => by
    obtain ⟨h1, h2⟩ := rOrd_ok2 l (rIns m e)
    have := rIns_len m e
    rw [List.foldl_cons]
    refine ⟨by simp; omega, fun x hx => ?_⟩
    rcases h2 x hx with h | h
    · rcases rIns_mem h with h | h
      · exact .inl h
      · exact .inr (by simp [h])
    · exact .inr (by simp [h])
theorem goodE_z {s : List Fml} {e : Ent} (h : ZChk e ∧ e.fam < s.length) (hf : e.fits) : goodE s e := ⟨h.1.fam.1, h.2, hf, by have := h.1.ts; omega, h.1.ts.2⟩
theorem rReady {s : List Fml} {clock low t vn : Int} {l : List Ent} (hl : l.length ≤ 1000000000) (hf : ∀ e ∈ l, e.fits) (h : rAsked s clock low t vn l = 0) : ROk s (rOrd l) := by
  obtain ⟨h1, h2⟩ := rOrd_ok2 l []
  unfold rAsked at h
  split at h
  · rename_i h9; exact absurd h h9
  · rename_i h9
    split at h
    · exact absurd h (by decide)
    · have hs := z_schema (s := s) (by simpa using h9)
      unfold rChecked at h
      split at h
      · rename_i h8; exact absurd h h8
      · rename_i h8
        have h8 : badsE s l = 0 := by rw [← rChk_bads]; simpa using h8
        refine ⟨by simp at h1; exact Nat.le_trans h1 hl, fun f hf => (hs.2.2 f hf).2.2, fun x hx => ?_⟩
        have hxl : x ∈ l := by rcases h2 x hx with h | h; (cases h); (exact h)
        have := z_checked (z_bads h8 x hxl)
        exact goodE_z ⟨z_chk this.1, this.2⟩ (hf x hxl)
theorem rVis_sub (s : List Fml) (clock : Int) (m : List Ent) : ∀ (l v : List Ent), (l.foldl (rVisS s clock m) v).length ≤ v.length + l.length ∧ ∀ x ∈ l.foldl (rVisS s clock m) v, x ∈ v ∨ x ∈ l
  | [], v => ⟨by simp, fun x hx => .inl hx⟩
  | a :: l, v => by
    obtain ⟨h1, h2⟩ := rVis_sub s clock m l (rVisS s clock m v a)
    have h : rVisS s clock m v a = v ∨ rVisS s clock m v a = v ++ [a] := by unfold rVisS; split <;> simp
    rw [List.foldl_cons]
    refine ⟨?_, fun x hx => ?_⟩
    · rcases h with h | h <;> rw [h] at h1 ⊢ <;> simp at h1 ⊢ <;> omega
    · rcases h2 x hx with h3 | h3
      · rcases h with h | h <;> rw [h] at h3
        · exact .inl h3
        · rcases List.mem_append.1 h3 with h3 | h3
          · exact .inl h3
          · exact .inr (by simp at h3; simp [h3])
      · exact .inr (by simp [h3])
theorem c_ref3_Read (s : List Fml) (clock t vn : Int) (l : List Ent) (hl : l.length ≤ 1000000000) (hf : ∀ e ∈ l, e.fits) (H : Heap) (n : Nat) : Ret Tryz.prog 21 [schAV s, .int .i64 clock, .int .i64 t, .int .i64 vn, entsAV l] H n (.tup [entsAV (rReadE s clock t vn l).1, .int .i64 (rReadE s clock t vn l).2]) H n := by
  refine Ret.fin ?_
  refine acalls_of_awp Tryz.func21 rfl Tryz.ntmps21 (congrArg Array.toList Tryz.results21) (by simp) ?_
  simp only [go_sem]
  refine awp_rq zs [1, 2, 3, 4, 5] ?_
  refine awp_reg zs [1, 2, 3, 4, 5, 12] fun K hK => ?_
  try simp only [go_sem, seval]
  repeat refine peel ?_
  refine callK_use Tryz.func39 rfl rfl rfl ((c_ref3_asked s clock 0 t vn l (by omega) _ _)) ?_
  try simp only [go_sem, seval]
  repeat refine peel ?_
  refine hK _ _ _ ?_; clear hK K
  refine awp_seq_k fun K1 hK1 => ?_
  refine awp_rq zs [1, 2, 3, 4, 5, 12, 26] ?_
  refine awp_cnd (fun hb => ?_) (fun hb => ?_)
  ·skip
   have h14 : rAsked s clock 0 t vn l ≠ 0 := by simpa using hb
   have hq : rReadE s clock t vn l = ([], rAsked s clock 0 t vn l) := by unfold rReadE; rw [if_pos h14]
   refine awp_rq zs [10, 11] ?_
   refine awp_ret ?_
   try simp only [go_sem, seval]
   rw [hq]
   first
   | (refine ⟨_, rfl, ?_, .tup (.cons .nilsl (.cons (.kl trivial) .nil))⟩
      intro k hk; have h0 : k ≠ n := by omega
      simp [Heap.put, h0])
   | exact ⟨_, rfl, hrest, .tup (.cons (by rw [← hd]; exact .osl hHr (by omega) (by simp) (by rw [List.drop_zero, List.take_of_length_le (by simp)]; exact FrzL.kls _ (kls_ents _ _))) (.cons (.kl trivial) .nil))⟩
  ·skip
   have h14 : ¬ rAsked s clock 0 t vn l ≠ 0 := by simpa using hb
   have hq : rReadE s clock t vn l = (rRead t vn (rVisible s clock (rOrd l)), 0) := by unfold rReadE; rw [if_neg h14]
   have hro := rReady hl hf (by simpa using h14)
   refine awp_skip ?_
   try simp only [go_sem, seval]
   refine hK1 _ _ _ ?_
   first | clear hK1 K1 | skip
   refine awp_drw rfl zs [2, 3, 13] [.q, .m, .m, .c, .c, .q] (by kernel_rfl) (fun _ _ _ _ _ h => h) fun K hK => ?_
   try simp only [go_sem, seval]
   repeat refine peel ?_
   refine callQG_use Tryz.func38 rfl rfl rfl (fun _ n => (c_ref3_ordered l hl hf _ _)) ?_
   try simp only [go_sem, seval]
   repeat refine peel ?_
   refine callQG_use Tryz.func40 rfl rfl rfl (fun _ n => (c_ref3_visible s clock (rOrd l) hro _ _)) ?_
   try simp only [go_sem, seval]
   repeat refine peel ?_
   refine hK _ _ _ ?_; clear hK K
   have hvl := (rVis_sub s clock (rOrd l) (rOrd l) []).1
   rw [show (rOrd l).foldl (rVisS s clock (rOrd l)) [] = rVisible s clock (rOrd l) from rfl] at hvl
   have hrl := hro.len
   simp only [List.length_nil] at hvl
   generalize rVisible s clock (rOrd l) = v at *
   refine awp_rq zs [2, 3, 13, 14] ?_
   refine awp_seq_k fun K2 hK2 => ?_
   refine awp_adopt_tmp 14 7 rfl ?_
   refine awp_rq zs [2, 3, 13, 14, 15] ?_
   refine awp_block ?_
   refine awp_loop (fun T' H' n' => ∃ (i : Nat) (r : List Ent), i ≤ v.length ∧ r.length ≤ i ∧ T' = tl [(2, .int .i64 t), (3, .int .i64 vn), (13, .sl 7 (v.map entAV)), (14, .osl (n + 1) r.length 0 r.length), (15, .int .i64 i)] ∧ n + 2 ≤ n' ∧ H' (n + 1) = some (.arr r.length 7 (r.map entAV)) ∧ (∀ k, k < n → H' k = H k) ∧ (v.drop i).foldl (rReadS t vn) r = rRead t vn v) (fun T' _ _ => v.length - iv (T' 15)) ?_ ?_
   ·skip
    refine ⟨0, [], Nat.zero_le _, Nat.zero_le _, rfl, by omega, ?_, ?_, rfl⟩
    · first | (simp [Heap.put]; done) | (simp [Heap.put]; rfl)
    · intro k hk; have h0 : k ≠ n := by omega
      have h1 : k ≠ n + 1 := by omega
      simp [Heap.put, h0, h1]
   intro T1 H1 n1
   rintro ⟨i, r, hi, hri, rfl, hn, hHr, hrest, hd⟩
   refine awp_seq_k fun K3 hK3 => ?_
   refine awp_rq zs [2, 3, 13, 14, 15, 36] ?_
   refine awp_cnd (fun hb => ?_) (fun hb => ?_)
   ·skip
    have hlt : i < v.length := by simpa using hb
    rw [drop_cons v i hlt, List.foldl_cons] at hd
    have hnth : nth (v.map entAV) i = entAV (v.getD i default) := nth_map entAV v i hlt
    generalize v.getD i default = x at *
    refine awp_skip ?_
    try simp only [go_sem, seval]
    refine hK3 _ _ _ ?_
    first | clear hK3 K3 | skip
    refine awp_seq_k fun K4 hK4 => ?_
    refine awp_block ?_
    refine awp_rq zs [2, 3, 13, 14, 15, 16] ?_
    refine awp_seq_k fun K5 hK5 => ?_
    refine awp_rq zs [2, 3, 13, 14, 15, 16, 17] ?_
    refine awp_block ?_
    refine awp_loop (fun T' H' n' => ∃ (j : Nat) (c : Int), j ≤ r.length ∧ 0 ≤ c ∧ c ≤ j ∧ T' = tl [(2, .int .i64 t), (3, .int .i64 vn), (13, .sl 7 (v.map entAV)), (14, .osl (n + 1) r.length 0 r.length), (15, .int .i64 i), (16, .int .i64 c), (17, .int .i64 j)] ∧ H' = H1 ∧ n' = n1 ∧ (r.drop j).foldl (rCntS x) c = rCnt r x) (fun T' _ _ => r.length - iv (T' 17)) ?_ ?_
    ·skip
     exact ⟨0, 0, Nat.zero_le _, Int.le_refl _, Int.le_refl _, rfl, rfl, rfl, rfl⟩
    intro T1 H1 n1
    rintro ⟨j, c, hj, hc0, hcj, rfl, rfl, rfl, hd2⟩
    refine awp_seq_k fun K6 hK6 => ?_
    refine awp_rq zs [2, 3, 13, 14, 15, 16, 17, 42] ?_
    refine awp_cnd (fun hb => ?_) (fun hb => ?_)
    ·skip
     have hlj : j < r.length := by simpa using hb
     rw [drop_cons r j hlj, List.foldl_cons] at hd2
     have hnj : nth (r.map entAV) j = entAV (r.getD j default) := nth_map entAV r j hlj
     generalize r.getD j default = y at *
     have hwr : IntKind.i64.wrap (c + 1) = c + 1 := w64 (by omega) (by omega)
     refine awp_skip ?_
     try simp only [go_sem, seval]
     refine hK6 _ _ _ ?_
     first | clear hK6 K6 | skip
     refine awp_seq_k fun K7 hK7 => ?_
     refine awp_block ?_
     refine awp_drw rfl zs [2, 3, 13, 14, 15, 16, 17, 18] [.m, .m, .q, .q, .m, .m, .q, .q, .c, .q] (by kernel_rfl) (fun _ _ _ _ _ h => h) fun K hK => ?_
     try simp only [go_sem, seval, Int.toNat_natCast, hnth, hnj, hHr]
     repeat (first | (refine And.intro ?_ ?_; · first | (simp; omega)) | refine peel ?_)
     refine callQG_use Tryz.func44 rfl rfl rfl (fun _ n => (c_ref3_mates y x _ _)) ?_
     try simp only [go_sem, seval, Int.toNat_natCast, hnth, hnj, hHr]
     repeat (first | (refine And.intro ?_ ?_; · first | (simp; omega)) | refine peel ?_)
     refine hK _ _ _ ?_; clear hK K
     refine awp_rq zs [2, 3, 13, 14, 15, 16, 17, 54] ?_
     refine awp_cnd (fun hb => ?_) (fun hb => ?_)
     ·skip
      have hs : rCntS x c y = c + 1 := if_pos hb
      refine awp_reg1 zs [2, 3, 13, 14, 15, 16, 17] fun K hK => ?_
      try simp only [go_sem, seval, hwr]
      repeat refine peel ?_
      refine hK _ _ _ ?_; clear hK K
      try simp only [go_sem, seval]
      refine hK7 _ _ _ ?_
      first | clear hK7 K7 | skip
      refine awp_reg1 zs [2, 3, 13, 14, 15, 16, 17] fun K hK => ?_
      try simp only [go_sem, seval]
      repeat refine peel ?_
      refine hK _ _ _ ?_; clear hK K
      try simp only [go_sem, seval]
      rw [hs] at hd2
      refine ⟨⟨j + 1, _, by omega, by omega, by omega, by rw [w1 (by omega)], hd2⟩, by rw [w1 (by omega)]; simp; omega⟩
     ·skip
      have hs : rCntS x c y = c := if_neg (by rw [hb]; decide)
      refine awp_skip ?_
      try simp only [go_sem, seval]
      refine hK7 _ _ _ ?_
      first | clear hK7 K7 | skip
      refine awp_reg1 zs [2, 3, 13, 14, 15, 16, 17] fun K hK => ?_
      try simp only [go_sem, seval]
      repeat refine peel ?_
      refine hK _ _ _ ?_; clear hK K
      try simp only [go_sem, seval]
      rw [hs] at hd2
      refine ⟨⟨j + 1, _, by omega, by omega, by omega, by rw [w1 (by omega)], hd2⟩, by rw [w1 (by omega)]; simp; omega⟩
    ·skip
     have hge2 : j = r.length := by simp at hb; omega
     rw [hge2, List.drop_length, List.foldl_nil] at hd2
     refine awp_exit ?_
     try simp only [go_sem, seval]
     refine hK5 _ _ _ ?_
     first | clear hK5 K5 | skip
     refine awp_reg zs [2, 3, 13, 14, 15, 68] fun K hK => ?_
     try simp only [go_sem, seval, Int.toNat_natCast, hnth]
     repeat refine peel ?_
     refine hK _ _ _ ?_; clear hK K
     refine awp_cnd (fun hb => ?_) (fun hb => ?_)
     ·skip
      have hs : rReadS t vn r x = r ++ [x] := if_pos (by simp only [cond_and] at hb; rw [← hd2]; exact hb)
      refine awp_reg1 zs [2, 3, 13, 14, 15] fun K hK => ?_
      try simp only [go_sem, seval, Int.toNat_natCast, hnth, hHr]
      repeat (first | (refine And.intro ?_ ?_; · first | exact ⟨rfl, by simp [AV.sz, AV.szs, AV.memOK]⟩ | (simp; omega) | exact ⟨by simp, .inr trivial, by simp; omega, by simp; omega⟩) | refine peel ?_)
      refine hK _ _ _ ?_; clear hK K
      try simp only [go_sem, seval]
      refine hK4 _ _ _ ?_
      first | clear hK4 K4 | skip
      refine awp_reg1 zs [2, 3, 13, 14, 15] fun K hK => ?_
      try simp only [go_sem, seval]
      repeat refine peel ?_
      refine hK _ _ _ ?_; clear hK K
      try simp only [go_sem, seval]
      rw [hs] at hd
      refine ⟨⟨i + 1, _, by omega, by first | omega | (simp; omega), by first | (rw [w1 (by omega)]; done) | (rw [w1 (by omega)]; simp; done), by omega, ?_, ?_, hd⟩, by rw [w1 (by omega)]; simp; omega⟩
      · first | exact hHr | (simp [hHr]; done) | (simp [hHr, List.take_of_length_le]; rfl)
      · intro k hk; have h0 : k ≠ n + 1 := by omega
        first | exact hrest k hk | simp [h0, hrest k hk]
     ·skip
      have hs : rReadS t vn r x = r := if_neg (by simp only [cond_and] at hb; rw [← hd2]; exact Bool.eq_false_iff.1 hb)
      refine awp_skip ?_
      try simp only [go_sem, seval]
      refine hK4 _ _ _ ?_
      first | clear hK4 K4 | skip
      refine awp_reg1 zs [2, 3, 13, 14, 15] fun K hK => ?_
      try simp only [go_sem, seval]
      repeat refine peel ?_
      refine hK _ _ _ ?_; clear hK K
      try simp only [go_sem, seval]
      rw [hs] at hd
      refine ⟨⟨i + 1, _, by omega, by first | omega | (simp; omega), by first | (rw [w1 (by omega)]; done) | (rw [w1 (by omega)]; simp; done), by omega, ?_, ?_, hd⟩, by rw [w1 (by omega)]; simp; omega⟩
      · first | exact hHr | (simp [hHr]; done) | (simp [hHr, List.take_of_length_le]; rfl)
      · intro k hk; have h0 : k ≠ n + 1 := by omega
        first | exact hrest k hk | simp [h0, hrest k hk]
   ·skip
    have hge : i = v.length := by simp at hb; omega
    rw [hge, List.drop_length, List.foldl_nil] at hd
    refine awp_exit ?_
    try simp only [go_sem, seval]
    refine hK2 _ _ _ ?_
    first | clear hK2 K2 | skip
    refine awp_rq zs [10, 11] ?_
    refine awp_ret ?_
    try simp only [go_sem, seval]
    rw [hq]
    first
    | (refine ⟨_, rfl, ?_, .tup (.cons .nilsl (.cons (.kl trivial) .nil))⟩
       intro k hk; have h0 : k ≠ n := by omega
       simp [Heap.put, h0])
    | exact ⟨_, rfl, hrest, .tup (.cons (by rw [← hd]; exact .osl hHr (by omega) (by simp) (by rw [List.drop_zero, List.take_of_length_le (by simp)]; exact FrzL.kls _ (kls_ents _ _))) (.cons (.kl trivial) .nil))⟩
end Go.Proofs.YtijhkfhflpmajaaGreat
namespace Go.Proofs.YtijhkfhflpmajaaGreat
open Go Go.Sx Go.Rt Go.Proofs
end Go.Proofs.YtijhkfhflpmajaaGreat
namespace Go.Proofs.YtijhkfhflpmajaaGreat
open Go Go.Sx Go.Rt Go.Proofs
end Go.Proofs.YtijhkfhflpmajaaGreat
namespace Go.Proofs.YtijhkfhflpmajaaGreat
open Go Go.Sx Go.Rt Go.Proofs
theorem p_ref3_ordered (kI vI : Nat) (l : List Ent) (hl : l.length ≤ 1000000000) (hf : ∀ e ∈ l, e.fits) (H : Heap) (n : Nat) (hkI : kI < n) (hI : H kI = some (.arr vI 7 (l.map entAV))) : Ret Tryz.prog 38 [.osl kI vI 0 l.length] H n (entsAV (rOrd l)) H n := by
  refine Ret.fin ?_
  refine acalls_of_awp Tryz.func38 rfl Tryz.ntmps38 (congrArg Array.toList Tryz.results38) (by simp) ?_
  simp only [go_sem]
  refine awp_rq zs [0] ?_
  refine awp_rq zs [0, 3] ?_
  refine awp_seq_k fun K1 hK1 => ?_
  refine awp_wk_tmp 3 (.sl 7 []) (Wk.nilsl 7) ?_
  refine awp_rq zs [0, 3, 4] ?_
  refine awp_block ?_
  refine awp_loop (fun T' H' n' => ∃ (i : Nat) (m : List Ent), i ≤ l.length ∧ m.length ≤ i ∧ (∀ x ∈ m, x.fits) ∧ T' = tl [(0, .osl kI vI 0 l.length), (3, .sl 7 (m.map entAV)), (4, .int .i64 i)] ∧ n ≤ n' ∧ (∀ k, k < n → H' k = H k) ∧ (l.drop i).foldl rIns m = rOrd l) (fun T' _ _ => l.length - iv (T' 4)) ?_ ?_
  ·skip
   exact ⟨0, [], Nat.zero_le _, Nat.zero_le _, fun x hx => by (cases hx), rfl, Nat.le_refl _, fun k hk => rfl, rfl⟩
  intro T1 H1 n1
  rintro ⟨i, m, hi, hmi, hmf, rfl, hn, hrest, hd⟩
  refine awp_seq_k fun K2 hK2 => ?_
  refine awp_rq zs [0, 3, 4, 10] ?_
  refine awp_cnd (fun hb => ?_) (fun hb => ?_)
  ·skip
   have hI1 : H1 kI = some (.arr vI 7 (l.map entAV)) := (hrest kI hkI).trans hI
   have qI : (kI = n1) = False := by simp; omega
   have qI2 : (n1 = kI) = False := by simp; omega
   have hll : (l.map entAV).length = l.length := List.length_map _
   have hlt : i < l.length := by simpa using hb
   rw [drop_cons l i hlt, List.foldl_cons] at hd
   have hnth : nth (l.map entAV) i = entAV (l.getD i default) := nth_map entAV l i hlt
   have hfe : (l.getD i default).fits := hf _ (by simp [List.getD, List.getElem?_eq_getElem hlt])
   generalize l.getD i default = e at *
   have hat : rAt e m ≤ m.length := rAt_le e m
   have hil := rIns_len m e
   refine awp_skip ?_
   try simp only [go_sem, ↓reduceIte, Nat.reduceEqDiff, Nat.reduceLT, Nat.reduceSub, Nat.reduceAdd, Nat.reduceMul]
   refine hK2 _ _ _ ?_
   first | clear hK2 K2 | skip
   refine awp_seq_k fun K3 hK3 => ?_
   refine awp_block ?_
   refine awp_rq zs [0, 3, 4, 5] ?_
   refine awp_seq_k fun K4 hK4 => ?_
   refine awp_block ?_
   refine awp_loop (fun T' H' n' => ∃ (a : Nat), a ≤ m.length ∧ T' = tl [(0, .osl kI vI 0 l.length), (3, .sl 7 (m.map entAV)), (4, .int .i64 i), (5, .int .i64 a)] ∧ H' = H1 ∧ n' = n1 ∧ a + rAt e (m.drop a) = rAt e m) (fun T' _ _ => m.length - iv (T' 5)) ?_ ?_
   ·skip
    exact ⟨0, Nat.zero_le _, rfl, rfl, rfl, by simp⟩
   intro T1 H1 n1
   rintro ⟨a, ha, rfl, rfl, rfl, hd2⟩
   refine awp_seq_k fun K5 hK5 => ?_
   refine awp_drw rfl zs [0, 3, 4, 5, 28] [.m, .m, .q, .q, .m, .m, .m, .q, .q, .m, .m, .q, .q, .c, .q, .q] (by kernel_rfl) (fun _ _ _ _ _ h => h) fun K hK => ?_
   try simp only [go_sem, ↓reduceIte, Nat.reduceEqDiff, Nat.reduceLT, Nat.reduceSub, Nat.reduceAdd, Nat.reduceMul, hI1, qI, qI2, Int.toNat_natCast, hnth, List.length_map]
   repeat (first | (refine And.intro ?_ ?_; · first | (intro hg; simp at hg; simp; omega) | (intro hg; have hg : a < m.length := (by simpa using hg); rw [nth_map entAV m a hg]; exact ⟨rfl, by rw [entAV_sz]⟩) | (intro _; omega) | (intro hg; simp at hg ⊢; omega)) | refine peel ?_)
   refine callQG_use (args' := [nth (m.map entAV) a, entAV e]) (r := .int .i64 (compE (m.getD a default) e)) Tryz.func68 rfl rfl (by rfl) (fun hg n => by rw [nth_map entAV m a (by simpa using hg)]; exact c_ref2_Compare _ _ (hmf _ (by rw [List.getD, List.getElem?_eq_getElem (show a < m.length by simpa using hg)]; exact List.getElem_mem _)) _ _) ?_
   try simp only [go_sem, ↓reduceIte, Nat.reduceEqDiff, Nat.reduceLT, Nat.reduceSub, Nat.reduceAdd, Nat.reduceMul, hI1, qI, qI2, Int.toNat_natCast, hnth, List.length_map]
   repeat (first | (refine And.intro ?_ ?_; · first | (intro hg; simp at hg; simp; omega) | (intro hg; have hg : a < m.length := (by simpa using hg); rw [nth_map entAV m a hg]; exact ⟨rfl, by rw [entAV_sz]⟩) | (intro _; omega) | (intro hg; simp at hg ⊢; omega)) | refine peel ?_)
   refine hK _ _ _ ?_; clear hK K
   refine awp_cnd (fun hb => ?_) (fun hb => ?_)
   ·skip
    simp only [cond_and, Bool.and_eq_true, decide_eq_true_eq] at hb
    have hal : a < m.length := by omega
    have hcmp : compE (m.getD a default) e < 0 := hb.2
    rw [drop_cons m a hal, rAt, if_pos hcmp] at hd2
    refine awp_skip ?_
    try simp only [go_sem, ↓reduceIte, Nat.reduceEqDiff, Nat.reduceLT, Nat.reduceSub, Nat.reduceAdd, Nat.reduceMul]
    refine hK5 _ _ _ ?_
    first | clear hK5 K5 | skip
    refine awp_block ?_
    refine awp_reg1 zs [0, 3, 4, 5] fun K hK => ?_
    try simp only [go_sem, ↓reduceIte, Nat.reduceEqDiff, Nat.reduceLT, Nat.reduceSub, Nat.reduceAdd, Nat.reduceMul]
    repeat refine peel ?_
    refine hK _ _ _ ?_; clear hK K
    try simp only [go_sem, ↓reduceIte, Nat.reduceEqDiff, Nat.reduceLT, Nat.reduceSub, Nat.reduceAdd, Nat.reduceMul]
    refine ⟨⟨a + 1, by omega, by rw [w1 (by omega)], by omega⟩, by rw [w1 (by omega)]; simp; omega⟩
   ·skip
    simp only [cond_and, Bool.and_eq_false_iff, decide_eq_false_iff_not] at hb
    have hae : a = rAt e m := by
      rcases Nat.lt_or_ge a m.length with hal | hal
      · have hcmp : ¬ compE (m.getD a default) e < 0 := hb.elim (fun h => absurd (by omega) h) id
        rw [drop_cons m a hal, rAt, if_neg hcmp] at hd2; omega
      · rw [List.drop_eq_nil_of_le hal, rAt] at hd2; omega
    refine awp_exit ?_
    try simp only [go_sem, ↓reduceIte, Nat.reduceEqDiff, Nat.reduceLT, Nat.reduceSub, Nat.reduceAdd, Nat.reduceMul]
    refine hK4 _ _ _ ?_
    first | clear hK4 K4 | skip
    refine awp_seq_k fun K6 hK6 => ?_
    refine awp_drw rfl zs [0, 3, 4, 5, 46] [.m, .m, .q, .q, .m, .m, .m, .q, .q, .m, .m, .q, .q, .c, .q, .q] (by kernel_rfl) (fun _ _ _ _ _ h => h) fun K hK => ?_
    try simp only [go_sem, ↓reduceIte, Nat.reduceEqDiff, Nat.reduceLT, Nat.reduceSub, Nat.reduceAdd, Nat.reduceMul, hI1, qI, qI2, Int.toNat_natCast, hnth, List.length_map]
    repeat (first | (refine And.intro ?_ ?_; · first | (intro hg; simp at hg; simp; omega) | (intro hg; have hg : a < m.length := (by simpa using hg); rw [nth_map entAV m a hg]; exact ⟨rfl, by rw [entAV_sz]⟩) | (intro _; omega) | (intro hg; simp at hg ⊢; omega)) | refine peel ?_)
    refine callQG_use (args' := [nth (m.map entAV) a, entAV e]) (r := .int .i64 (compE (m.getD a default) e)) Tryz.func68 rfl rfl (by rfl) (fun hg n => by rw [nth_map entAV m a (by simpa using hg)]; exact c_ref2_Compare _ _ (hmf _ (by rw [List.getD, List.getElem?_eq_getElem (show a < m.length by simpa using hg)]; exact List.getElem_mem _)) _ _) ?_
    try simp only [go_sem, ↓reduceIte, Nat.reduceEqDiff, Nat.reduceLT, Nat.reduceSub, Nat.reduceAdd, Nat.reduceMul, hI1, qI, qI2, Int.toNat_natCast, hnth, List.length_map]
    repeat (first | (refine And.intro ?_ ?_; · first | (intro hg; simp at hg; simp; omega) | (intro hg; have hg : a < m.length := (by simpa using hg); rw [nth_map entAV m a hg]; exact ⟨rfl, by rw [entAV_sz]⟩) | (intro _; omega) | (intro hg; simp at hg ⊢; omega)) | refine peel ?_)
    refine hK _ _ _ ?_; clear hK K
    refine awp_cnd (fun hb => ?_) (fun hb => ?_)
    ·skip
     simp only [cond_and, Bool.and_eq_true, decide_eq_true_eq, beq_iff_eq] at hb
     have hins : rIns m e = m := by
       unfold rIns; rw [← hae, if_pos ⟨by omega, hb.2⟩]
     refine awp_exit ?_
     try simp only [go_sem, ↓reduceIte, Nat.reduceEqDiff, Nat.reduceLT, Nat.reduceSub, Nat.reduceAdd, Nat.reduceMul]
     refine hK3 _ _ _ ?_
     first | clear hK3 K3 | skip
     refine awp_reg1 zs [0, 3, 4] fun K hK => ?_
     try simp only [go_sem, ↓reduceIte, Nat.reduceEqDiff, Nat.reduceLT, Nat.reduceSub, Nat.reduceAdd, Nat.reduceMul]
     repeat refine peel ?_
     refine hK _ _ _ ?_; clear hK K
     try simp only [go_sem, ↓reduceIte, Nat.reduceEqDiff, Nat.reduceLT, Nat.reduceSub, Nat.reduceAdd, Nat.reduceMul]
     rw [hins] at hd hil
     refine ⟨⟨i + 1, _, by omega, by omega, ?_, by rw [w1 (by omega)], by omega, ?_, hd⟩, by rw [w1 (by omega)]; simp; omega⟩
     · intro x hx; rcases rIns_mem (by rw [hins]; exact hx) with h | h; (exact hmf x h); (rw [h]; exact hfe)
     · intro k hk; first | exact hrest k hk | (have h0 : k ≠ n1 := (by omega); simp [h0, hrest k hk])
    ·skip
     simp only [cond_and, Bool.and_eq_false_iff, decide_eq_false_iff_not, beq_eq_false_iff_ne] at hb
     have hins : rIns m e = m.take a ++ (e :: m.drop a) := by
       unfold rIns; rw [← hae, if_neg]
       rintro ⟨hal, h0⟩
       exact hb.elim (fun h => h (by omega)) fun h => h h0
     refine awp_skip ?_
     try simp only [go_sem, ↓reduceIte, Nat.reduceEqDiff, Nat.reduceLT, Nat.reduceSub, Nat.reduceAdd, Nat.reduceMul]
     refine hK6 _ _ _ ?_
     first | clear hK6 K6 | skip
     refine awp_rq zs [0, 3, 4, 5, 6] ?_
     refine awp_adopt_tmp 6 7 rfl ?_
     refine awp_reg zs [0, 3, 4, 5, 6] fun K hK => ?_
     try simp only [go_sem, ↓reduceIte, Nat.reduceEqDiff, Nat.reduceLT, Nat.reduceSub, Nat.reduceAdd, Nat.reduceMul, hI1, qI, qI2, Option.getD_some, Option.getD_none, Int.toNat_zero, List.drop_zero, List.length_take, Int.toNat_natCast, List.length_map]
     repeat (first | (refine And.intro ?_ ?_; · first | (intro m9 hm9; cases hm9) | exact ⟨by omega, .inr trivial, by omega, by omega⟩ | exact ⟨by simp, .inr trivial, by simp; omega, by simp; omega⟩) | refine peel ?_)
     refine hK _ _ _ ?_; clear hK K
     refine awp_reg zs [0, 3, 4, 5, 6] fun K hK => ?_
     try simp only [go_sem, ↓reduceIte, Nat.reduceEqDiff, Nat.reduceLT, Nat.reduceSub, Nat.reduceAdd, Nat.reduceMul, hI1, qI, qI2, Option.getD_some, Option.getD_none, Int.toNat_zero, List.drop_zero, List.length_take, Int.toNat_natCast, hnth]
     repeat (first | (refine And.intro ?_ ?_; · first | exact ⟨by omega, .inr trivial, by omega, by omega⟩ | exact ⟨rfl, by decide, by simp [AV.sz, AV.szs, AV.memOK]⟩ | exact ⟨by simp, .inr trivial, by simp; omega, by simp; omega⟩ | (simp; omega)) | refine peel ?_)
     refine callK_use Tryz.func34 rfl rfl rfl ((c_ref3_Clone e hfe _ _)) ?_
     try simp only [go_sem, ↓reduceIte, Nat.reduceEqDiff, Nat.reduceLT, Nat.reduceSub, Nat.reduceAdd, Nat.reduceMul, hI1, qI, qI2, Option.getD_some, Option.getD_none, Int.toNat_zero, List.drop_zero, List.length_take, Int.toNat_natCast, hnth]
     repeat (first | (refine And.intro ?_ ?_; · first | exact ⟨by omega, .inr trivial, by omega, by omega⟩ | exact ⟨rfl, by decide, by simp [AV.sz, AV.szs, AV.memOK]⟩ | exact ⟨by simp, .inr trivial, by simp; omega, by simp; omega⟩ | (simp; omega)) | refine peel ?_)
     refine hK _ _ _ ?_; clear hK K
     refine awp_reg zs [0, 4, 6] fun K hK => ?_
     try simp only [go_sem, ↓reduceIte, Nat.reduceEqDiff, Nat.reduceLT, Nat.reduceSub, Nat.reduceAdd, Nat.reduceMul, hI1, qI, qI2, Option.getD_some, Option.getD_none, Int.toNat_zero, List.drop_zero, List.length_take, Int.toNat_natCast, List.length_map]
     repeat (first | (refine And.intro ?_ ?_; · first | exact ⟨by omega, .inr trivial, by omega, by omega⟩ | exact ⟨by simp, .inr trivial, by simp; omega, by simp; omega⟩ | (simp; omega)) | refine peel ?_)
     refine hK _ _ _ ?_; clear hK K
     refine awp_frz_tmp 6 (esz := 7) (els := (m.take a ++ (e :: m.drop a)).map entAV) rfl (by rw [Heap.put_same]; exact congrArg some (congrArg (AObj.arr 3 7) (ins_els m a e ha))) (by simp; omega) ?_
     refine awp_reg1 zs [0, 3, 4] fun K hK => ?_
     try simp only [go_sem, ↓reduceIte, Nat.reduceEqDiff, Nat.reduceLT, Nat.reduceSub, Nat.reduceAdd, Nat.reduceMul]
     repeat refine peel ?_
     refine hK _ _ _ ?_; clear hK K
     try simp only [go_sem, ↓reduceIte, Nat.reduceEqDiff, Nat.reduceLT, Nat.reduceSub, Nat.reduceAdd, Nat.reduceMul]
     refine hK3 _ _ _ ?_
     first | clear hK3 K3 | skip
     refine awp_reg1 zs [0, 3, 4] fun K hK => ?_
     try simp only [go_sem, ↓reduceIte, Nat.reduceEqDiff, Nat.reduceLT, Nat.reduceSub, Nat.reduceAdd, Nat.reduceMul]
     repeat refine peel ?_
     refine hK _ _ _ ?_; clear hK K
     try simp only [go_sem, ↓reduceIte, Nat.reduceEqDiff, Nat.reduceLT, Nat.reduceSub, Nat.reduceAdd, Nat.reduceMul]
     rw [hins] at hd hil
     refine ⟨⟨i + 1, _, by omega, by omega, ?_, by rw [w1 (by omega)], by omega, ?_, hd⟩, by rw [w1 (by omega)]; simp; omega⟩
     · intro x hx; rcases rIns_mem (by rw [hins]; exact hx) with h | h; (exact hmf x h); (rw [h]; exact hfe)
     · intro k hk; first | exact hrest k hk | (have h0 : k ≠ n1 := (by omega); simp [h0, hrest k hk])
  ·skip
   have hge : i = l.length := by simp at hb; omega
   rw [hge, List.drop_length, List.foldl_nil] at hd
   refine awp_exit ?_
   try simp only [go_sem, ↓reduceIte, Nat.reduceEqDiff, Nat.reduceLT, Nat.reduceSub, Nat.reduceAdd, Nat.reduceMul]
   refine hK1 _ _ _ ?_
   first | clear hK1 K1 | skip
   refine awp_rq zs [2] ?_
   refine awp_ret ?_
   try simp only [go_sem, ↓reduceIte, Nat.reduceEqDiff, Nat.reduceLT, Nat.reduceSub, Nat.reduceAdd, Nat.reduceMul]
   exact ⟨_, rfl, hrest, by rw [← hd]; exact Frz.kl (kls_ents _ _)⟩
theorem ents_frz0 {H : Heap} {k v : Nat} {l : List Ent} (hI : H k = some (.arr v 7 (l.map entAV))) : Frz H 0 (.osl k v 0 l.length) (entsAV l) :=
  .osl hI (Nat.zero_le _) (by simp) (by rw [List.drop_zero, List.take_of_length_le (by simp)]; exact frzL_kl _ (kls_ents l 0))
theorem p_ref3_asked (kI vI : Nat) (s : List Fml) (clock low t vn : Int) (l : List Ent) (hl : l.length < 4611686018427387904) (H : Heap) (n : Nat) (hI : H kI = some (.arr vI 7 (l.map entAV))) : Ret Tryz.prog 39 [schAV s, .int .i64 clock, .int .i64 low, .int .i64 t, .int .i64 vn, .osl kI vI 0 l.length] H n (.int .i64 (rAsked s clock low t vn l)) H n :=
  Ret.lend trivial (.cons (.kl (kl_sch s 0)) (.cons (.kl trivial) (.cons (.kl trivial) (.cons (.kl trivial) (.cons (.kl trivial) (.cons (ents_frz0 hI) .nil)))))) (c_ref3_asked s clock low t vn l hl _ _)
theorem p_ref3_Read (s : List Fml) (clock t vn : Int) (kI vI : Nat) (l : List Ent) (hl : l.length ≤ 1000000000) (hf : ∀ e ∈ l, e.fits) (H : Heap) (n : Nat) (hkI : kI < n) (hI : H kI = some (.arr vI 7 (l.map entAV))) : Ret Tryz.prog 21 [schAV s, .int .i64 clock, .int .i64 t, .int .i64 vn, .osl kI vI 0 l.length] H n (.tup [entsAV (rReadE s clock t vn l).1, .int .i64 (rReadE s clock t vn l).2]) H n := by
  refine Ret.fin ?_
  refine acalls_of_awp Tryz.func21 rfl Tryz.ntmps21 (congrArg Array.toList Tryz.results21) (by simp) ?_
  simp only [go_sem]
  refine awp_rq zs [1, 2, 3, 4, 5] ?_
  refine awp_reg zs [1, 2, 3, 4, 5, 12] fun K hK => ?_
  try simp only [go_sem, seval]
  repeat refine peel ?_
  refine callK_use Tryz.func39 rfl rfl rfl ((p_ref3_asked kI vI s clock 0 t vn l (by omega) _ _ ((Heap.put_ne _ _ (by omega)).trans hI))) ?_
  try simp only [go_sem, seval]
  repeat refine peel ?_
  refine hK _ _ _ ?_; clear hK K
  refine awp_seq_k fun K1 hK1 => ?_
  refine awp_rq zs [1, 2, 3, 4, 5, 12, 26] ?_
  refine awp_cnd (fun hb => ?_) (fun hb => ?_)
  ·skip
   have h14 : rAsked s clock 0 t vn l ≠ 0 := by simpa using hb
   have hq : rReadE s clock t vn l = ([], rAsked s clock 0 t vn l) := by unfold rReadE; rw [if_pos h14]
   refine awp_rq zs [10, 11] ?_
   refine awp_ret ?_
   try simp only [go_sem, seval]
   rw [hq]
   first
   | (refine ⟨_, rfl, ?_, .tup (.cons .nilsl (.cons (.kl trivial) .nil))⟩
      intro k hk; have h0 : k ≠ n := by omega
      simp [Heap.put, h0])
   | exact ⟨_, rfl, hrest, .tup (.cons (by rw [← hd]; exact .osl hHr (by omega) (by simp) (by rw [List.drop_zero, List.take_of_length_le (by simp)]; exact FrzL.kls _ (kls_ents _ _))) (.cons (.kl trivial) .nil))⟩
  ·skip
   have h14 : ¬ rAsked s clock 0 t vn l ≠ 0 := by simpa using hb
   have hq : rReadE s clock t vn l = (rRead t vn (rVisible s clock (rOrd l)), 0) := by unfold rReadE; rw [if_neg h14]
   have hro := rReady hl hf (by simpa using h14)
   refine awp_skip ?_
   try simp only [go_sem, seval]
   refine hK1 _ _ _ ?_
   first | clear hK1 K1 | skip
   refine awp_drw rfl zs [2, 3, 13] [.q, .m, .m, .w [0], .c, .q] (by kernel_rfl) (fun _ _ _ _ _ h => h) fun K hK => ?_
   try simp only [go_sem, seval]
   repeat refine peel ?_
   refine callK_use Tryz.func38 rfl rfl rfl ((p_ref3_ordered kI vI l hl hf _ _ (by omega) ((Heap.put_ne _ _ (by omega)).trans hI))) ?_
   try simp only [go_sem, seval]
   repeat refine peel ?_
   refine callQG_use Tryz.func40 rfl rfl rfl (fun _ n => (c_ref3_visible s clock (rOrd l) hro _ _)) ?_
   try simp only [go_sem, seval]
   repeat refine peel ?_
   refine hK _ _ _ ?_; clear hK K
   have hvl := (rVis_sub s clock (rOrd l) (rOrd l) []).1
   rw [show (rOrd l).foldl (rVisS s clock (rOrd l)) [] = rVisible s clock (rOrd l) from rfl] at hvl
   have hrl := hro.len
   simp only [List.length_nil] at hvl
   generalize rVisible s clock (rOrd l) = v at *
   refine awp_rq zs [2, 3, 13, 14] ?_
   refine awp_seq_k fun K2 hK2 => ?_
   refine awp_adopt_tmp 14 7 rfl ?_
   refine awp_rq zs [2, 3, 13, 14, 15] ?_
   refine awp_block ?_
   refine awp_loop (fun T' H' n' => ∃ (i : Nat) (r : List Ent), i ≤ v.length ∧ r.length ≤ i ∧ T' = tl [(2, .int .i64 t), (3, .int .i64 vn), (13, .sl 7 (v.map entAV)), (14, .osl (n + 1) r.length 0 r.length), (15, .int .i64 i)] ∧ n + 2 ≤ n' ∧ H' (n + 1) = some (.arr r.length 7 (r.map entAV)) ∧ (∀ k, k < n → H' k = H k) ∧ (v.drop i).foldl (rReadS t vn) r = rRead t vn v) (fun T' _ _ => v.length - iv (T' 15)) ?_ ?_
   ·skip
    refine ⟨0, [], Nat.zero_le _, Nat.zero_le _, rfl, by omega, ?_, ?_, rfl⟩
    · first | (simp [Heap.put]; done) | (simp [Heap.put]; rfl)
    · intro k hk; have h0 : k ≠ n := by omega
      have h1 : k ≠ n + 1 := by omega
      simp [Heap.put, h0, h1]
   intro T1 H1 n1
   rintro ⟨i, r, hi, hri, rfl, hn, hHr, hrest, hd⟩
   refine awp_seq_k fun K3 hK3 => ?_
   refine awp_rq zs [2, 3, 13, 14, 15, 36] ?_
   refine awp_cnd (fun hb => ?_) (fun hb => ?_)
   ·skip
    have hlt : i < v.length := by simpa using hb
    rw [drop_cons v i hlt, List.foldl_cons] at hd
    have hnth : nth (v.map entAV) i = entAV (v.getD i default) := nth_map entAV v i hlt
    generalize v.getD i default = x at *
    refine awp_skip ?_
    try simp only [go_sem, seval]
    refine hK3 _ _ _ ?_
    first | clear hK3 K3 | skip
    refine awp_seq_k fun K4 hK4 => ?_
    refine awp_block ?_
    refine awp_rq zs [2, 3, 13, 14, 15, 16] ?_
    refine awp_seq_k fun K5 hK5 => ?_
    refine awp_rq zs [2, 3, 13, 14, 15, 16, 17] ?_
    refine awp_block ?_
    refine awp_loop (fun T' H' n' => ∃ (j : Nat) (c : Int), j ≤ r.length ∧ 0 ≤ c ∧ c ≤ j ∧ T' = tl [(2, .int .i64 t), (3, .int .i64 vn), (13, .sl 7 (v.map entAV)), (14, .osl (n + 1) r.length 0 r.length), (15, .int .i64 i), (16, .int .i64 c), (17, .int .i64 j)] ∧ H' = H1 ∧ n' = n1 ∧ (r.drop j).foldl (rCntS x) c = rCnt r x) (fun T' _ _ => r.length - iv (T' 17)) ?_ ?_
    ·skip
     exact ⟨0, 0, Nat.zero_le _, Int.le_refl _, Int.le_refl _, rfl, rfl, rfl, rfl⟩
    intro T1 H1 n1
    rintro ⟨j, c, hj, hc0, hcj, rfl, rfl, rfl, hd2⟩
    refine awp_seq_k fun K6 hK6 => ?_
    refine awp_rq zs [2, 3, 13, 14, 15, 16, 17, 42] ?_
    refine awp_cnd (fun hb => ?_) (fun hb => ?_)
    ·skip
     have hlj : j < r.length := by simpa using hb
     rw [drop_cons r j hlj, List.foldl_cons] at hd2
     have hnj : nth (r.map entAV) j = entAV (r.getD j default) := nth_map entAV r j hlj
     generalize r.getD j default = y at *
     have hwr : IntKind.i64.wrap (c + 1) = c + 1 := w64 (by omega) (by omega)
     refine awp_skip ?_
     try simp only [go_sem, seval]
     refine hK6 _ _ _ ?_
     first | clear hK6 K6 | skip
     refine awp_seq_k fun K7 hK7 => ?_
     refine awp_block ?_
     refine awp_drw rfl zs [2, 3, 13, 14, 15, 16, 17, 18] [.m, .m, .q, .q, .m, .m, .q, .q, .c, .q] (by kernel_rfl) (fun _ _ _ _ _ h => h) fun K hK => ?_
     try simp only [go_sem, seval, Int.toNat_natCast, hnth, hnj, hHr]
     repeat (first | (refine And.intro ?_ ?_; · first | (simp; omega)) | refine peel ?_)
     refine callQG_use Tryz.func44 rfl rfl rfl (fun _ n => (c_ref3_mates y x _ _)) ?_
     try simp only [go_sem, seval, Int.toNat_natCast, hnth, hnj, hHr]
     repeat (first | (refine And.intro ?_ ?_; · first | (simp; omega)) | refine peel ?_)
     refine hK _ _ _ ?_; clear hK K
     refine awp_rq zs [2, 3, 13, 14, 15, 16, 17, 54] ?_
     refine awp_cnd (fun hb => ?_) (fun hb => ?_)
     ·skip
      have hs : rCntS x c y = c + 1 := if_pos hb
      refine awp_reg1 zs [2, 3, 13, 14, 15, 16, 17] fun K hK => ?_
      try simp only [go_sem, seval, hwr]
      repeat refine peel ?_
      refine hK _ _ _ ?_; clear hK K
      try simp only [go_sem, seval]
      refine hK7 _ _ _ ?_
      first | clear hK7 K7 | skip
      refine awp_reg1 zs [2, 3, 13, 14, 15, 16, 17] fun K hK => ?_
      try simp only [go_sem, seval]
      repeat refine peel ?_
      refine hK _ _ _ ?_; clear hK K
      try simp only [go_sem, seval]
      rw [hs] at hd2
      refine ⟨⟨j + 1, _, by omega, by omega, by omega, by rw [w1 (by omega)], hd2⟩, by rw [w1 (by omega)]; simp; omega⟩
     ·skip
      have hs : rCntS x c y = c := if_neg (by rw [hb]; decide)
      refine awp_skip ?_
      try simp only [go_sem, seval]
      refine hK7 _ _ _ ?_
      first | clear hK7 K7 | skip
      refine awp_reg1 zs [2, 3, 13, 14, 15, 16, 17] fun K hK => ?_
      try simp only [go_sem, seval]
      repeat refine peel ?_
      refine hK _ _ _ ?_; clear hK K
      try simp only [go_sem, seval]
      rw [hs] at hd2
      refine ⟨⟨j + 1, _, by omega, by omega, by omega, by rw [w1 (by omega)], hd2⟩, by rw [w1 (by omega)]; simp; omega⟩
    ·skip
     have hge2 : j = r.length := by simp at hb; omega
     rw [hge2, List.drop_length, List.foldl_nil] at hd2
     refine awp_exit ?_
     try simp only [go_sem, seval]
     refine hK5 _ _ _ ?_
     first | clear hK5 K5 | skip
     refine awp_reg zs [2, 3, 13, 14, 15, 68] fun K hK => ?_
     try simp only [go_sem, seval, Int.toNat_natCast, hnth]
     repeat refine peel ?_
     refine hK _ _ _ ?_; clear hK K
     refine awp_cnd (fun hb => ?_) (fun hb => ?_)
     ·skip
      have hs : rReadS t vn r x = r ++ [x] := if_pos (by simp only [cond_and] at hb; rw [← hd2]; exact hb)
      refine awp_reg1 zs [2, 3, 13, 14, 15] fun K hK => ?_
      try simp only [go_sem, seval, Int.toNat_natCast, hnth, hHr]
      repeat (first | (refine And.intro ?_ ?_; · first | exact ⟨rfl, by simp [AV.sz, AV.szs, AV.memOK]⟩ | (simp; omega) | exact ⟨by simp, .inr trivial, by simp; omega, by simp; omega⟩) | refine peel ?_)
      refine hK _ _ _ ?_; clear hK K
      try simp only [go_sem, seval]
      refine hK4 _ _ _ ?_
      first | clear hK4 K4 | skip
      refine awp_reg1 zs [2, 3, 13, 14, 15] fun K hK => ?_
      try simp only [go_sem, seval]
      repeat refine peel ?_
      refine hK _ _ _ ?_; clear hK K
      try simp only [go_sem, seval]
      rw [hs] at hd
      refine ⟨⟨i + 1, _, by omega, by first | omega | (simp; omega), by first | (rw [w1 (by omega)]; done) | (rw [w1 (by omega)]; simp; done), by omega, ?_, ?_, hd⟩, by rw [w1 (by omega)]; simp; omega⟩
      · first | exact hHr | (simp [hHr]; done) | (simp [hHr, List.take_of_length_le]; rfl)
      · intro k hk; have h0 : k ≠ n + 1 := by omega
        first | exact hrest k hk | simp [h0, hrest k hk]
     ·skip
      have hs : rReadS t vn r x = r := if_neg (by simp only [cond_and] at hb; rw [← hd2]; exact Bool.eq_false_iff.1 hb)
      refine awp_skip ?_
      try simp only [go_sem, seval]
      refine hK4 _ _ _ ?_
      first | clear hK4 K4 | skip
      refine awp_reg1 zs [2, 3, 13, 14, 15] fun K hK => ?_
      try simp only [go_sem, seval]
      repeat refine peel ?_
      refine hK _ _ _ ?_; clear hK K
      try simp only [go_sem, seval]
      rw [hs] at hd
      refine ⟨⟨i + 1, _, by omega, by first | omega | (simp; omega), by first | (rw [w1 (by omega)]; done) | (rw [w1 (by omega)]; simp; done), by omega, ?_, ?_, hd⟩, by rw [w1 (by omega)]; simp; omega⟩
      · first | exact hHr | (simp [hHr]; done) | (simp [hHr, List.take_of_length_le]; rfl)
      · intro k hk; have h0 : k ≠ n + 1 := by omega
        first | exact hrest k hk | simp [h0, hrest k hk]
   ·skip
    have hge : i = v.length := by simp at hb; omega
    rw [hge, List.drop_length, List.foldl_nil] at hd
    refine awp_exit ?_
    try simp only [go_sem, seval]
    refine hK2 _ _ _ ?_
    first | clear hK2 K2 | skip
    refine awp_rq zs [10, 11] ?_
    refine awp_ret ?_
    try simp only [go_sem, seval]
    rw [hq]
    first
    | (refine ⟨_, rfl, ?_, .tup (.cons .nilsl (.cons (.kl trivial) .nil))⟩
       intro k hk; have h0 : k ≠ n := by omega
       simp [Heap.put, h0])
    | exact ⟨_, rfl, hrest, .tup (.cons (by rw [← hd]; exact .osl hHr (by omega) (by simp) (by rw [List.drop_zero, List.take_of_length_le (by simp)]; exact FrzL.kls _ (kls_ents _ _))) (.cons (.kl trivial) .nil))⟩
end Go.Proofs.YtijhkfhflpmajaaGreat