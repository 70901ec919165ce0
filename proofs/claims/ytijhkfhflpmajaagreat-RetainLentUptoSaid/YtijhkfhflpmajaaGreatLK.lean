/- Own layer: walks through the document's answer of layer 3: what is visible, read, left, the top. Of the program; no condition. -/
import Derived.Test.YtijhkfhflpmajaaGreatLJ
set_option linter.unusedSimpArgs false
set_option linter.unusedVariables false
namespace Go.Proofs.YtijhkfhflpmajaaGreat
open Go Go.Sx Go.Rt Go.Proofs

/-- what the document's walks are over -/
structure ROk (s : List Fml) (m : List Ent) : Prop where
  len : m.length ≤ 1000000000
  ttl : ∀ f ∈ s, 0 ≤ f.ttl ∧ f.ttl ≤ 1099511627776
  good : ∀ x ∈ m, goodE s x
theorem ROk.lt {s : List Fml} {m : List Ent} (h : ROk s m) : m.length < 4611686018427387904 := by have := h.len; omega

theorem c_ref3_visible (s : List Fml) (clock : Int) (m : List Ent) (hr : ROk s m) (H : Heap) (n : Nat) : Ret Tryz.prog 40 [schAV s, .int .i64 clock, entsAV m] H n (entsAV (rVisible s clock m)) H n := by
  have hl := hr.len
  refine Ret.fin ?_
  refine acalls_of_awp Tryz.func40 rfl Tryz.ntmps40 (congrArg Array.toList Tryz.results40) (by simp) ?_
  simp only [go_sem]
  refine awp_rq zs [1, 2, 3] ?_
  refine awp_rq zs [1, 2, 3, 7] ?_
  refine awp_seq_k fun K1 hK1 => ?_
  refine awp_adopt_tmp 7 7 rfl ?_
  refine awp_rq zs [1, 2, 3, 7, 8] ?_
  refine awp_block ?_
  -- loop 0: head [1, 2, 3, 7, 8]
  refine awp_loop (fun T' H' n' => ∃ (i : Nat) (v : List Ent), i ≤ m.length ∧ v.length ≤ i ∧ T' = tl [(1, .int .i64 clock), (2, .sl 7 (m.map entAV)), (3, .loc n 0 0 0 []), (7, .osl (n + 1) v.length 0 v.length), (8, .int .i64 i)] ∧ n + 2 ≤ n' ∧ H' n = some (.arr 0 1 [.agg [.sl 3 (s.map famAV)]]) ∧ H' (n + 1) = some (.arr v.length 7 (v.map entAV)) ∧ (∀ k, k < n → H' k = H k) ∧ (m.drop i).foldl (rVisS s clock m) v = rVisible s clock m) (fun T' _ _ => m.length - iv (T' 8)) ?_ ?_
  ·skip
   refine ⟨0, [], Nat.zero_le _, Nat.zero_le _, rfl, by omega, ?_, ?_, ?_, rfl⟩
   · first | (simp [Heap.put]; done) | (simp [Heap.put]; rfl)
   · first | (simp [Heap.put]; done) | (simp [Heap.put]; rfl)
   · intro k hk; have h0 : k ≠ n := by omega
     have h1 : k ≠ n + 1 := by omega
     simp [Heap.put, h0, h1]
  intro T1 H1 n1
  rintro ⟨i, v, hi, hvi, rfl, hn, hHn, hHv, hrest, hd⟩
  refine awp_seq_k fun K2 hK2 => ?_
  refine awp_rq zs [1, 2, 3, 7, 8, 15] ?_
  refine awp_cnd (fun hb => ?_) (fun hb => ?_)
  ·skip
   have hlt : i < m.length := by simpa using hb
   rw [drop_cons m i hlt, List.foldl_cons] at hd
   have hnth : nth (m.map entAV) i = entAV (m.getD i default) := nth_map entAV m i hlt
   have hgx : goodE s (m.getD i default) := hr.good _ (by simp [List.getD, List.getElem?_eq_getElem hlt])
   generalize m.getD i default = x at *
   have hfn := fam_nth s hgx.1 hgx.2.1
   have hg1 := hgx.1
   have hg2 := hgx.2.1
   have hfx := hgx.2.2.1
   refine awp_skip ?_
   try simp only [go_sem, ↓reduceIte, Nat.reduceEqDiff, Nat.reduceLT, Nat.reduceSub, Nat.reduceAdd, Nat.reduceMul]
   refine hK2 _ _ _ ?_
   first | clear hK2 K2 | skip
   refine awp_seq_k fun K3 hK3 => ?_
   refine awp_block ?_
   refine awp_seq_k fun K4 hK4 => ?_
   refine awp_reg zs [1, 2, 3, 7, 8, 23] fun K hK => ?_
   try simp only [go_sem, ↓reduceIte, Nat.reduceEqDiff, Nat.reduceLT, Nat.reduceSub, Nat.reduceAdd, Nat.reduceMul, Int.toNat_natCast, hnth]
   repeat refine peel ?_
   refine hK _ _ _ ?_; clear hK K
   refine awp_cnd (fun hb => ?_) (fun hb => ?_)
   ·skip
    have h23 : (x.kind == 1) = false := by simpa using hb
    have hs : rVisS s clock m v x = v := if_neg (by unfold rVisX; rw [h23]; simp)
    refine awp_exit ?_
    try simp only [go_sem, ↓reduceIte, Nat.reduceEqDiff, Nat.reduceLT, Nat.reduceSub, Nat.reduceAdd, Nat.reduceMul]
    refine hK3 _ _ _ ?_
    first | clear hK3 K3 | skip
    refine awp_reg1 zs [1, 2, 3, 7, 8] fun K hK => ?_
    try simp only [go_sem, ↓reduceIte, Nat.reduceEqDiff, Nat.reduceLT, Nat.reduceSub, Nat.reduceAdd, Nat.reduceMul]
    repeat refine peel ?_
    refine hK _ _ _ ?_; clear hK K
    try simp only [go_sem, ↓reduceIte, Nat.reduceEqDiff, Nat.reduceLT, Nat.reduceSub, Nat.reduceAdd, Nat.reduceMul]
    rw [hs] at hd
    refine ⟨⟨i + 1, _, by omega, by first | omega | (simp; omega), by first | (rw [w1 (by omega)]; done) | (rw [w1 (by omega)]; simp; done), by omega, ?_, ?_, ?_, hd⟩, by rw [w1 (by omega)]; simp; omega⟩
    · first | exact hHn | (simp [hHn]; done) | (simp [hHn]; rfl)
    · first | exact hHv | (simp [hHv]; done) | (simp [hHv, List.take_of_length_le]; rfl)
    · intro k hk; have h0 : k ≠ n + 1 := by omega
      first | exact hrest k hk | simp [h0, hrest k hk]
   ·skip
    have h23 : (x.kind == 1) = true := by simpa using hb
    refine awp_skip ?_
    try simp only [go_sem, ↓reduceIte, Nat.reduceEqDiff, Nat.reduceLT, Nat.reduceSub, Nat.reduceAdd, Nat.reduceMul]
    refine hK4 _ _ _ ?_
    first | clear hK4 K4 | skip
    refine awp_reg zs [1, 2, 3, 7, 8, 10] fun K hK => ?_
    try simp only [go_sem, ↓reduceIte, Nat.reduceEqDiff, Nat.reduceLT, Nat.reduceSub, Nat.reduceAdd, Nat.reduceMul, Int.toNat_natCast, hnth]
    repeat (first | (refine And.intro ?_ ?_; · first | (simp; omega)) | refine peel ?_)
    refine callK_use Tryz.func51 rfl rfl rfl ((c_ref3_group m x hr.lt _ _)) ?_
    try simp only [go_sem, ↓reduceIte, Nat.reduceEqDiff, Nat.reduceLT, Nat.reduceSub, Nat.reduceAdd, Nat.reduceMul, Int.toNat_natCast, hnth]
    repeat (first | (refine And.intro ?_ ?_; · first | (simp; omega)) | refine peel ?_)
    refine hK _ _ _ ?_; clear hK K
    refine awp_drw rfl zs [1, 2, 3, 7, 8, 10, 11] [.q, .m, .m, .m, .m, .q, .q, .c, .q] (by kernel_rfl) (fun _ _ _ _ _ h => h) fun K hK => ?_
    try simp only [go_sem, ↓reduceIte, Nat.reduceEqDiff, Nat.reduceLT, Nat.reduceSub, Nat.reduceAdd, Nat.reduceMul, Int.toNat_natCast, hnth, hHn]
    repeat (first | (refine And.intro ?_ ?_; · first | (simp; omega)) | refine peel ?_)
    refine callQG_use Tryz.func52 rfl rfl rfl (fun _ n => (c_ref3_in s clock m x hr.lt hr.ttl hgx _ _)) ?_
    try simp only [go_sem, ↓reduceIte, Nat.reduceEqDiff, Nat.reduceLT, Nat.reduceSub, Nat.reduceAdd, Nat.reduceMul, Int.toNat_natCast, hnth, hHn]
    repeat (first | (refine And.intro ?_ ?_; · first | (simp; omega)) | refine peel ?_)
    refine hK _ _ _ ?_; clear hK K
    refine awp_drw rfl zs [1, 2, 3, 7, 8, 65] [.m, .m, .m, .q, .m, .q, .m, .m, .m, .m, .q, .q, .c, .q, .q, .m, .m, .q, .q, .q, .q, .q, .q, .q, .q] (by kernel_rfl) (fun _ _ _ _ _ h => h) fun K hK => ?_
    try simp only [go_sem, ↓reduceIte, Nat.reduceEqDiff, Nat.reduceLT, Nat.reduceSub, Nat.reduceAdd, Nat.reduceMul, Int.toNat_natCast, hnth, hHn, hfn]
    repeat (first | (refine And.intro ?_ ?_; · first | (intro _; first | omega | (simp; omega) | (exact ⟨by omega, by simp; omega⟩)) | (simp; omega)) | refine peel ?_)
    refine callQG_use Tryz.func71 rfl rfl rfl (fun _ n => (c_ref3_rank s clock m x hr.lt hr.ttl hr.good _ _)) ?_
    try simp only [go_sem, ↓reduceIte, Nat.reduceEqDiff, Nat.reduceLT, Nat.reduceSub, Nat.reduceAdd, Nat.reduceMul, Int.toNat_natCast, hnth, hHn, hfn]
    repeat (first | (refine And.intro ?_ ?_; · first | (intro _; first | omega | (simp; omega) | (exact ⟨by omega, by simp; omega⟩)) | (simp; omega)) | refine peel ?_)
    refine hK _ _ _ ?_; clear hK K
    refine awp_cnd (fun hb => ?_) (fun hb => ?_)
    ·skip
     have h65 : rVisX s clock m x = true := by unfold rVisX; simp only [cond_and] at hb; rw [h23]; exact hb
     have hs : rVisS s clock m v x = v ++ [x] := if_pos h65
     refine awp_reg1 zs [1, 2, 3, 7, 8] fun K hK => ?_
     try simp only [go_sem, ↓reduceIte, Nat.reduceEqDiff, Nat.reduceLT, Nat.reduceSub, Nat.reduceAdd, Nat.reduceMul, Int.toNat_natCast, hnth, hHv]
     repeat (first | (refine And.intro ?_ ?_; · first | exact ⟨rfl, by decide, by simp [AV.sz, AV.szs, AV.memOK]⟩ | (simp; omega) | exact ⟨by simp, .inr trivial, by simp; omega, by simp; omega⟩) | refine peel ?_)
     refine callK_use Tryz.func34 rfl rfl rfl ((c_ref3_Clone x hfx _ _)) ?_
     try simp only [go_sem, ↓reduceIte, Nat.reduceEqDiff, Nat.reduceLT, Nat.reduceSub, Nat.reduceAdd, Nat.reduceMul, Int.toNat_natCast, hnth, hHv]
     repeat (first | (refine And.intro ?_ ?_; · first | exact ⟨rfl, by decide, by simp [AV.sz, AV.szs, AV.memOK]⟩ | (simp; omega) | exact ⟨by simp, .inr trivial, by simp; omega, by simp; omega⟩) | refine peel ?_)
     refine hK _ _ _ ?_; clear hK K
     try simp only [go_sem, ↓reduceIte, Nat.reduceEqDiff, Nat.reduceLT, Nat.reduceSub, Nat.reduceAdd, Nat.reduceMul]
     refine hK3 _ _ _ ?_
     first | clear hK3 K3 | skip
     refine awp_reg1 zs [1, 2, 3, 7, 8] fun K hK => ?_
     try simp only [go_sem, ↓reduceIte, Nat.reduceEqDiff, Nat.reduceLT, Nat.reduceSub, Nat.reduceAdd, Nat.reduceMul]
     repeat refine peel ?_
     refine hK _ _ _ ?_; clear hK K
     try simp only [go_sem, ↓reduceIte, Nat.reduceEqDiff, Nat.reduceLT, Nat.reduceSub, Nat.reduceAdd, Nat.reduceMul]
     rw [hs] at hd
     refine ⟨⟨i + 1, _, by omega, by first | omega | (simp; omega), by first | (rw [w1 (by omega)]; done) | (rw [w1 (by omega)]; simp; done), by omega, ?_, ?_, ?_, hd⟩, by rw [w1 (by omega)]; simp; omega⟩
     · first | exact hHn | (simp [hHn]; done) | (simp [hHn]; rfl)
     · first | exact hHv | (simp [hHv]; done) | (simp [hHv, List.take_of_length_le]; rfl)
     · intro k hk; have h0 : k ≠ n + 1 := by omega
       first | exact hrest k hk | simp [h0, hrest k hk]
    ·skip
     have h65 : rVisX s clock m x = false := by unfold rVisX; simp only [cond_and] at hb; rw [h23]; exact hb
     have hs : rVisS s clock m v x = v := if_neg (by rw [h65]; decide)
     refine awp_skip ?_
     try simp only [go_sem, ↓reduceIte, Nat.reduceEqDiff, Nat.reduceLT, Nat.reduceSub, Nat.reduceAdd, Nat.reduceMul]
     refine hK3 _ _ _ ?_
     first | clear hK3 K3 | skip
     refine awp_reg1 zs [1, 2, 3, 7, 8] fun K hK => ?_
     try simp only [go_sem, ↓reduceIte, Nat.reduceEqDiff, Nat.reduceLT, Nat.reduceSub, Nat.reduceAdd, Nat.reduceMul]
     repeat refine peel ?_
     refine hK _ _ _ ?_; clear hK K
     try simp only [go_sem, ↓reduceIte, Nat.reduceEqDiff, Nat.reduceLT, Nat.reduceSub, Nat.reduceAdd, Nat.reduceMul]
     rw [hs] at hd
     refine ⟨⟨i + 1, _, by omega, by first | omega | (simp; omega), by first | (rw [w1 (by omega)]; done) | (rw [w1 (by omega)]; simp; done), by omega, ?_, ?_, ?_, hd⟩, by rw [w1 (by omega)]; simp; omega⟩
     · first | exact hHn | (simp [hHn]; done) | (simp [hHn]; rfl)
     · first | exact hHv | (simp [hHv]; done) | (simp [hHv, List.take_of_length_le]; rfl)
     · intro k hk; have h0 : k ≠ n + 1 := by omega
       first | exact hrest k hk | simp [h0, hrest k hk]
  ·skip
   have hge : i = m.length := by simp at hb; omega
   rw [hge, List.drop_length, List.foldl_nil] at hd
   refine awp_exit ?_
   try simp only [go_sem, ↓reduceIte, Nat.reduceEqDiff, Nat.reduceLT, Nat.reduceSub, Nat.reduceAdd, Nat.reduceMul]
   refine hK1 _ _ _ ?_
   first | clear hK1 K1 | skip
   refine awp_rq zs [6] ?_
   refine awp_ret ?_
   try simp only [go_sem, ↓reduceIte, Nat.reduceEqDiff, Nat.reduceLT, Nat.reduceSub, Nat.reduceAdd, Nat.reduceMul]
   exact ⟨_, rfl, hrest, by rw [← hd]; exact .osl hHv (by omega) (by simp) (by rw [List.drop_zero, List.take_of_length_le (by simp)]; exact FrzL.kls _ (kls_ents _ _))⟩

theorem rOrd_ok2 : ∀ (l m : List Ent), (l.foldl rIns m).length ≤ m.length + l.length ∧ ∀ x ∈ l.foldl rIns m, x ∈ m ∨ x ∈ l
  | [], m => ⟨by simp, fun x hx => .inl hx⟩
  | e :: l, m => by
    obtain ⟨h1, h2⟩ := rOrd_ok2 l (rIns m e)
    have := rIns_len m e
    rw [List.foldl_cons]
    refine ⟨by simp; omega, fun x hx => ?_⟩
    rcases h2 x hx with h | h
    · rcases rIns_mem h with h | h
      · exact .inl h
      · exact .inr (by simp [h])
    · exact .inr (by simp [h])
theorem goodE_z {s : List Fml} {e : Ent} (h : ZChk e ∧ e.fam < s.length) (hf : e.fits) : goodE s e := ⟨h.1.fam.1, h.2, hf, by have := h.1.ts; omega, h.1.ts.2⟩
/-- what the document's walks find ready -/
theorem rReady {s : List Fml} {clock low t vn : Int} {l : List Ent} (hl : l.length ≤ 1000000000) (hf : ∀ e ∈ l, e.fits) (h : rAsked s clock low t vn l = 0) : ROk s (rOrd l) := by
  obtain ⟨h1, h2⟩ := rOrd_ok2 l []
  unfold rAsked at h
  split at h
  · rename_i h9; exact absurd h h9
  · rename_i h9
    split at h
    · exact absurd h (by decide)
    · have hs := z_schema (s := s) (by simpa using h9)
      unfold rChecked at h
      split at h
      · rename_i h8; exact absurd h h8
      · rename_i h8
        have h8 : badsE s l = 0 := by rw [← rChk_bads]; simpa using h8
        refine ⟨by simp at h1; exact Nat.le_trans h1 hl, fun f hf => (hs.2.2 f hf).2.2, fun x hx => ?_⟩
        have hxl : x ∈ l := by rcases h2 x hx with h | h; (cases h); (exact h)
        have := z_checked (z_bads h8 x hxl)
        exact goodE_z ⟨z_chk this.1, this.2⟩ (hf x hxl)

theorem c_ref3_Vis (s : List Fml) (clock : Int) (l : List Ent) (hl : l.length ≤ 1000000000) (hf : ∀ e ∈ l, e.fits) (H : Heap) (n : Nat) : Ret Tryz.prog 19 [schAV s, .int .i64 clock, entsAV l] H n (.tup [entsAV (rVisE s clock l).1, .int .i64 (rVisE s clock l).2]) H n := by
  refine Ret.fin ?_
  refine acalls_of_awp Tryz.func19 rfl Tryz.ntmps19 (congrArg Array.toList Tryz.results19) (by simp) ?_
  simp only [go_sem]
  refine awp_rq zs [1, 2, 3] ?_
  refine awp_reg zs [1, 2, 3, 8] fun K hK => ?_
  try simp only [go_sem, ↓reduceIte, Nat.reduceEqDiff, Nat.reduceLT, Nat.reduceSub, Nat.reduceAdd, Nat.reduceMul]
  repeat refine peel ?_
  refine callK_use Tryz.func39 rfl rfl rfl ((c_ref3_asked s clock 0 0 1 l (by omega) _ _)) ?_
  try simp only [go_sem, ↓reduceIte, Nat.reduceEqDiff, Nat.reduceLT, Nat.reduceSub, Nat.reduceAdd, Nat.reduceMul]
  repeat refine peel ?_
  refine hK _ _ _ ?_; clear hK K
  refine awp_seq_k fun K1 hK1 => ?_
  refine awp_rq zs [1, 2, 3, 8, 14] ?_
  refine awp_cnd (fun hb => ?_) (fun hb => ?_)
  ·skip
   have h14 : rAsked s clock 0 0 1 l ≠ 0 := by simpa using hb
   have hq : rVisE s clock l = ([], rAsked s clock 0 0 1 l) := by unfold rVisE; rw [if_pos h14]
   refine awp_rq zs [6, 7] ?_
   refine awp_ret ?_
   try simp only [go_sem, ↓reduceIte, Nat.reduceEqDiff, Nat.reduceLT, Nat.reduceSub, Nat.reduceAdd, Nat.reduceMul]
   rw [hq]
   refine ⟨_, rfl, ?_, ?_⟩
   · intro k hk; have h0 : k ≠ n := by omega
     simp [Heap.put, h0]
   · first | exact .tup (.cons .nilsl (.cons (.kl trivial) .nil)) | exact .kl ⟨kls_ents _ _, trivial, trivial⟩
  ·skip
   have h14 : ¬ rAsked s clock 0 0 1 l ≠ 0 := by simpa using hb
   have hq : rVisE s clock l = (rVisible s clock (rOrd l), 0) := by unfold rVisE; rw [if_neg h14]
   have hro := rReady hl hf (by simpa using h14)
   refine awp_skip ?_
   try simp only [go_sem, ↓reduceIte, Nat.reduceEqDiff, Nat.reduceLT, Nat.reduceSub, Nat.reduceAdd, Nat.reduceMul]
   refine hK1 _ _ _ ?_
   first | clear hK1 K1 | skip
   refine awp_drw rfl zs [6, 7] [.q, .m, .m, .c, .c, .q, .q] (by kernel_rfl) (fun _ _ _ _ _ h => h) fun K hK => ?_
   try simp only [go_sem, ↓reduceIte, Nat.reduceEqDiff, Nat.reduceLT, Nat.reduceSub, Nat.reduceAdd, Nat.reduceMul]
   repeat refine peel ?_
   refine callQG_use Tryz.func38 rfl rfl rfl (fun _ n => (c_ref3_ordered l hl hf _ _)) ?_
   try simp only [go_sem, ↓reduceIte, Nat.reduceEqDiff, Nat.reduceLT, Nat.reduceSub, Nat.reduceAdd, Nat.reduceMul]
   repeat refine peel ?_
   refine callQG_use Tryz.func40 rfl rfl rfl (fun _ n => (c_ref3_visible s clock (rOrd l) hro _ _)) ?_
   try simp only [go_sem, ↓reduceIte, Nat.reduceEqDiff, Nat.reduceLT, Nat.reduceSub, Nat.reduceAdd, Nat.reduceMul]
   repeat refine peel ?_
   refine hK _ _ _ ?_; clear hK K
   refine awp_ret ?_
   try simp only [go_sem, ↓reduceIte, Nat.reduceEqDiff, Nat.reduceLT, Nat.reduceSub, Nat.reduceAdd, Nat.reduceMul]
   rw [hq]
   refine ⟨_, rfl, ?_, ?_⟩
   · intro k hk; have h0 : k ≠ n := by omega
     simp [Heap.put, h0]
   · first | exact .tup (.cons .nilsl (.cons (.kl trivial) .nil)) | exact .kl ⟨kls_ents _ _, trivial, trivial⟩

theorem rVis_sub (s : List Fml) (clock : Int) (m : List Ent) : ∀ (l v : List Ent), (l.foldl (rVisS s clock m) v).length ≤ v.length + l.length ∧ ∀ x ∈ l.foldl (rVisS s clock m) v, x ∈ v ∨ x ∈ l
  | [], v => ⟨by simp, fun x hx => .inl hx⟩
  | a :: l, v => by
    obtain ⟨h1, h2⟩ := rVis_sub s clock m l (rVisS s clock m v a)
    have h : rVisS s clock m v a = v ∨ rVisS s clock m v a = v ++ [a] := by unfold rVisS; split <;> simp
    rw [List.foldl_cons]
    refine ⟨?_, fun x hx => ?_⟩
    · rcases h with h | h <;> rw [h] at h1 ⊢ <;> simp at h1 ⊢ <;> omega
    · rcases h2 x hx with h3 | h3
      · rcases h with h | h <;> rw [h] at h3
        · exact .inl h3
        · rcases List.mem_append.1 h3 with h3 | h3
          · exact .inl h3
          · exact .inr (by simp at h3; simp [h3])
      · exact .inr (by simp [h3])

theorem c_ref3_Read (s : List Fml) (clock t vn : Int) (l : List Ent) (hl : l.length ≤ 1000000000) (hf : ∀ e ∈ l, e.fits) (H : Heap) (n : Nat) : Ret Tryz.prog 21 [schAV s, .int .i64 clock, .int .i64 t, .int .i64 vn, entsAV l] H n (.tup [entsAV (rReadE s clock t vn l).1, .int .i64 (rReadE s clock t vn l).2]) H n := by
  refine Ret.fin ?_
  refine acalls_of_awp Tryz.func21 rfl Tryz.ntmps21 (congrArg Array.toList Tryz.results21) (by simp) ?_
  simp only [go_sem]
  refine awp_rq zs [1, 2, 3, 4, 5] ?_
  refine awp_reg zs [1, 2, 3, 4, 5, 12] fun K hK => ?_
  try simp only [go_sem, ↓reduceIte, Nat.reduceEqDiff, Nat.reduceLT, Nat.reduceSub, Nat.reduceAdd, Nat.reduceMul]
  repeat refine peel ?_
  refine callK_use Tryz.func39 rfl rfl rfl ((c_ref3_asked s clock 0 t vn l (by omega) _ _)) ?_
  try simp only [go_sem, ↓reduceIte, Nat.reduceEqDiff, Nat.reduceLT, Nat.reduceSub, Nat.reduceAdd, Nat.reduceMul]
  repeat refine peel ?_
  refine hK _ _ _ ?_; clear hK K
  refine awp_seq_k fun K1 hK1 => ?_
  refine awp_rq zs [1, 2, 3, 4, 5, 12, 26] ?_
  refine awp_cnd (fun hb => ?_) (fun hb => ?_)
  ·skip
   have h14 : rAsked s clock 0 t vn l ≠ 0 := by simpa using hb
   have hq : rReadE s clock t vn l = ([], rAsked s clock 0 t vn l) := by unfold rReadE; rw [if_pos h14]
   refine awp_rq zs [10, 11] ?_
   refine awp_ret ?_
   try simp only [go_sem, ↓reduceIte, Nat.reduceEqDiff, Nat.reduceLT, Nat.reduceSub, Nat.reduceAdd, Nat.reduceMul]
   rw [hq]
   first
   | (refine ⟨_, rfl, ?_, .tup (.cons .nilsl (.cons (.kl trivial) .nil))⟩
      intro k hk; have h0 : k ≠ n := by omega
      simp [Heap.put, h0])
   | exact ⟨_, rfl, hrest, .tup (.cons (by rw [← hd]; exact .osl hHr (by omega) (by simp) (by rw [List.drop_zero, List.take_of_length_le (by simp)]; exact FrzL.kls _ (kls_ents _ _))) (.cons (.kl trivial) .nil))⟩
  ·skip
   have h14 : ¬ rAsked s clock 0 t vn l ≠ 0 := by simpa using hb
   have hq : rReadE s clock t vn l = (rRead t vn (rVisible s clock (rOrd l)), 0) := by unfold rReadE; rw [if_neg h14]
   have hro := rReady hl hf (by simpa using h14)
   refine awp_skip ?_
   try simp only [go_sem, ↓reduceIte, Nat.reduceEqDiff, Nat.reduceLT, Nat.reduceSub, Nat.reduceAdd, Nat.reduceMul]
   refine hK1 _ _ _ ?_
   first | clear hK1 K1 | skip
   refine awp_drw rfl zs [2, 3, 13] [.q, .m, .m, .c, .c, .q] (by kernel_rfl) (fun _ _ _ _ _ h => h) fun K hK => ?_
   try simp only [go_sem, ↓reduceIte, Nat.reduceEqDiff, Nat.reduceLT, Nat.reduceSub, Nat.reduceAdd, Nat.reduceMul]
   repeat refine peel ?_
   refine callQG_use Tryz.func38 rfl rfl rfl (fun _ n => (c_ref3_ordered l hl hf _ _)) ?_
   try simp only [go_sem, ↓reduceIte, Nat.reduceEqDiff, Nat.reduceLT, Nat.reduceSub, Nat.reduceAdd, Nat.reduceMul]
   repeat refine peel ?_
   refine callQG_use Tryz.func40 rfl rfl rfl (fun _ n => (c_ref3_visible s clock (rOrd l) hro _ _)) ?_
   try simp only [go_sem, ↓reduceIte, Nat.reduceEqDiff, Nat.reduceLT, Nat.reduceSub, Nat.reduceAdd, Nat.reduceMul]
   repeat refine peel ?_
   refine hK _ _ _ ?_; clear hK K
   have hvl := (rVis_sub s clock (rOrd l) (rOrd l) []).1
   rw [show (rOrd l).foldl (rVisS s clock (rOrd l)) [] = rVisible s clock (rOrd l) from rfl] at hvl
   have hrl := hro.len
   simp only [List.length_nil] at hvl
   generalize rVisible s clock (rOrd l) = v at *
   refine awp_rq zs [2, 3, 13, 14] ?_
   refine awp_seq_k fun K2 hK2 => ?_
   refine awp_adopt_tmp 14 7 rfl ?_
   refine awp_rq zs [2, 3, 13, 14, 15] ?_
   refine awp_block ?_
   -- loop 0: head [2, 3, 13, 14, 15]
   refine awp_loop (fun T' H' n' => ∃ (i : Nat) (r : List Ent), i ≤ v.length ∧ r.length ≤ i ∧ T' = tl [(2, .int .i64 t), (3, .int .i64 vn), (13, .sl 7 (v.map entAV)), (14, .osl (n + 1) r.length 0 r.length), (15, .int .i64 i)] ∧ n + 2 ≤ n' ∧ H' (n + 1) = some (.arr r.length 7 (r.map entAV)) ∧ (∀ k, k < n → H' k = H k) ∧ (v.drop i).foldl (rReadS t vn) r = rRead t vn v) (fun T' _ _ => v.length - iv (T' 15)) ?_ ?_
   ·skip
    refine ⟨0, [], Nat.zero_le _, Nat.zero_le _, rfl, by omega, ?_, ?_, rfl⟩
    · first | (simp [Heap.put]; done) | (simp [Heap.put]; rfl)
    · intro k hk; have h0 : k ≠ n := by omega
      have h1 : k ≠ n + 1 := by omega
      simp [Heap.put, h0, h1]
   intro T1 H1 n1
   rintro ⟨i, r, hi, hri, rfl, hn, hHr, hrest, hd⟩
   refine awp_seq_k fun K3 hK3 => ?_
   refine awp_rq zs [2, 3, 13, 14, 15, 36] ?_
   refine awp_cnd (fun hb => ?_) (fun hb => ?_)
   ·skip
    have hlt : i < v.length := by simpa using hb
    rw [drop_cons v i hlt, List.foldl_cons] at hd
    have hnth : nth (v.map entAV) i = entAV (v.getD i default) := nth_map entAV v i hlt
    generalize v.getD i default = x at *
    refine awp_skip ?_
    try simp only [go_sem, ↓reduceIte, Nat.reduceEqDiff, Nat.reduceLT, Nat.reduceSub, Nat.reduceAdd, Nat.reduceMul]
    refine hK3 _ _ _ ?_
    first | clear hK3 K3 | skip
    refine awp_seq_k fun K4 hK4 => ?_
    refine awp_block ?_
    refine awp_rq zs [2, 3, 13, 14, 15, 16] ?_
    refine awp_seq_k fun K5 hK5 => ?_
    refine awp_rq zs [2, 3, 13, 14, 15, 16, 17] ?_
    refine awp_block ?_
    -- loop 1: head [2, 3, 13, 14, 15, 16, 17]
    refine awp_loop (fun T' H' n' => ∃ (j : Nat) (c : Int), j ≤ r.length ∧ 0 ≤ c ∧ c ≤ j ∧ T' = tl [(2, .int .i64 t), (3, .int .i64 vn), (13, .sl 7 (v.map entAV)), (14, .osl (n + 1) r.length 0 r.length), (15, .int .i64 i), (16, .int .i64 c), (17, .int .i64 j)] ∧ H' = H1 ∧ n' = n1 ∧ (r.drop j).foldl (rCntS x) c = rCnt r x) (fun T' _ _ => r.length - iv (T' 17)) ?_ ?_
    ·skip
     exact ⟨0, 0, Nat.zero_le _, Int.le_refl _, Int.le_refl _, rfl, rfl, rfl, rfl⟩
    intro T1 H1 n1
    rintro ⟨j, c, hj, hc0, hcj, rfl, rfl, rfl, hd2⟩
    refine awp_seq_k fun K6 hK6 => ?_
    refine awp_rq zs [2, 3, 13, 14, 15, 16, 17, 42] ?_
    refine awp_cnd (fun hb => ?_) (fun hb => ?_)
    ·skip
     have hlj : j < r.length := by simpa using hb
     rw [drop_cons r j hlj, List.foldl_cons] at hd2
     have hnj : nth (r.map entAV) j = entAV (r.getD j default) := nth_map entAV r j hlj
     generalize r.getD j default = y at *
     have hwr : IntKind.i64.wrap (c + 1) = c + 1 := w64 (by omega) (by omega)
     refine awp_skip ?_
     try simp only [go_sem, ↓reduceIte, Nat.reduceEqDiff, Nat.reduceLT, Nat.reduceSub, Nat.reduceAdd, Nat.reduceMul]
     refine hK6 _ _ _ ?_
     first | clear hK6 K6 | skip
     refine awp_seq_k fun K7 hK7 => ?_
     refine awp_block ?_
     refine awp_drw rfl zs [2, 3, 13, 14, 15, 16, 17, 18] [.m, .m, .q, .q, .m, .m, .q, .q, .c, .q] (by kernel_rfl) (fun _ _ _ _ _ h => h) fun K hK => ?_
     try simp only [go_sem, ↓reduceIte, Nat.reduceEqDiff, Nat.reduceLT, Nat.reduceSub, Nat.reduceAdd, Nat.reduceMul, Int.toNat_natCast, hnth, hnj, hHr]
     repeat (first | (refine And.intro ?_ ?_; · first | (simp; omega)) | refine peel ?_)
     refine callQG_use Tryz.func44 rfl rfl rfl (fun _ n => (c_ref3_mates y x _ _)) ?_
     try simp only [go_sem, ↓reduceIte, Nat.reduceEqDiff, Nat.reduceLT, Nat.reduceSub, Nat.reduceAdd, Nat.reduceMul, Int.toNat_natCast, hnth, hnj, hHr]
     repeat (first | (refine And.intro ?_ ?_; · first | (simp; omega)) | refine peel ?_)
     refine hK _ _ _ ?_; clear hK K
     refine awp_rq zs [2, 3, 13, 14, 15, 16, 17, 54] ?_
     refine awp_cnd (fun hb => ?_) (fun hb => ?_)
     ·skip
      have hs : rCntS x c y = c + 1 := if_pos hb
      refine awp_reg1 zs [2, 3, 13, 14, 15, 16, 17] fun K hK => ?_
      try simp only [go_sem, ↓reduceIte, Nat.reduceEqDiff, Nat.reduceLT, Nat.reduceSub, Nat.reduceAdd, Nat.reduceMul, hwr]
      repeat refine peel ?_
      refine hK _ _ _ ?_; clear hK K
      try simp only [go_sem, ↓reduceIte, Nat.reduceEqDiff, Nat.reduceLT, Nat.reduceSub, Nat.reduceAdd, Nat.reduceMul]
      refine hK7 _ _ _ ?_
      first | clear hK7 K7 | skip
      refine awp_reg1 zs [2, 3, 13, 14, 15, 16, 17] fun K hK => ?_
      try simp only [go_sem, ↓reduceIte, Nat.reduceEqDiff, Nat.reduceLT, Nat.reduceSub, Nat.reduceAdd, Nat.reduceMul]
      repeat refine peel ?_
      refine hK _ _ _ ?_; clear hK K
      try simp only [go_sem, ↓reduceIte, Nat.reduceEqDiff, Nat.reduceLT, Nat.reduceSub, Nat.reduceAdd, Nat.reduceMul]
      rw [hs] at hd2
      refine ⟨⟨j + 1, _, by omega, by omega, by omega, by rw [w1 (by omega)], hd2⟩, by rw [w1 (by omega)]; simp; omega⟩
     ·skip
      have hs : rCntS x c y = c := if_neg (by rw [hb]; decide)
      refine awp_skip ?_
      try simp only [go_sem, ↓reduceIte, Nat.reduceEqDiff, Nat.reduceLT, Nat.reduceSub, Nat.reduceAdd, Nat.reduceMul]
      refine hK7 _ _ _ ?_
      first | clear hK7 K7 | skip
      refine awp_reg1 zs [2, 3, 13, 14, 15, 16, 17] fun K hK => ?_
      try simp only [go_sem, ↓reduceIte, Nat.reduceEqDiff, Nat.reduceLT, Nat.reduceSub, Nat.reduceAdd, Nat.reduceMul]
      repeat refine peel ?_
      refine hK _ _ _ ?_; clear hK K
      try simp only [go_sem, ↓reduceIte, Nat.reduceEqDiff, Nat.reduceLT, Nat.reduceSub, Nat.reduceAdd, Nat.reduceMul]
      rw [hs] at hd2
      refine ⟨⟨j + 1, _, by omega, by omega, by omega, by rw [w1 (by omega)], hd2⟩, by rw [w1 (by omega)]; simp; omega⟩
    ·skip
     have hge2 : j = r.length := by simp at hb; omega
     rw [hge2, List.drop_length, List.foldl_nil] at hd2
     refine awp_exit ?_
     try simp only [go_sem, ↓reduceIte, Nat.reduceEqDiff, Nat.reduceLT, Nat.reduceSub, Nat.reduceAdd, Nat.reduceMul]
     refine hK5 _ _ _ ?_
     first | clear hK5 K5 | skip
     refine awp_reg zs [2, 3, 13, 14, 15, 68] fun K hK => ?_
     try simp only [go_sem, ↓reduceIte, Nat.reduceEqDiff, Nat.reduceLT, Nat.reduceSub, Nat.reduceAdd, Nat.reduceMul, Int.toNat_natCast, hnth]
     repeat refine peel ?_
     refine hK _ _ _ ?_; clear hK K
     refine awp_cnd (fun hb => ?_) (fun hb => ?_)
     ·skip
      have hs : rReadS t vn r x = r ++ [x] := if_pos (by simp only [cond_and] at hb; rw [← hd2]; exact hb)
      refine awp_reg1 zs [2, 3, 13, 14, 15] fun K hK => ?_
      try simp only [go_sem, ↓reduceIte, Nat.reduceEqDiff, Nat.reduceLT, Nat.reduceSub, Nat.reduceAdd, Nat.reduceMul, Int.toNat_natCast, hnth, hHr]
      repeat (first | (refine And.intro ?_ ?_; · first | exact ⟨rfl, by decide, by simp [AV.sz, AV.szs, AV.memOK]⟩ | (simp; omega) | exact ⟨by simp, .inr trivial, by simp; omega, by simp; omega⟩) | refine peel ?_)
      refine hK _ _ _ ?_; clear hK K
      try simp only [go_sem, ↓reduceIte, Nat.reduceEqDiff, Nat.reduceLT, Nat.reduceSub, Nat.reduceAdd, Nat.reduceMul]
      refine hK4 _ _ _ ?_
      first | clear hK4 K4 | skip
      refine awp_reg1 zs [2, 3, 13, 14, 15] fun K hK => ?_
      try simp only [go_sem, ↓reduceIte, Nat.reduceEqDiff, Nat.reduceLT, Nat.reduceSub, Nat.reduceAdd, Nat.reduceMul]
      repeat refine peel ?_
      refine hK _ _ _ ?_; clear hK K
      try simp only [go_sem, ↓reduceIte, Nat.reduceEqDiff, Nat.reduceLT, Nat.reduceSub, Nat.reduceAdd, Nat.reduceMul]
      rw [hs] at hd
      refine ⟨⟨i + 1, _, by omega, by first | omega | (simp; omega), by first | (rw [w1 (by omega)]; done) | (rw [w1 (by omega)]; simp; done), by omega, ?_, ?_, hd⟩, by rw [w1 (by omega)]; simp; omega⟩
      · first | exact hHr | (simp [hHr]; done) | (simp [hHr, List.take_of_length_le]; rfl)
      · intro k hk; have h0 : k ≠ n + 1 := by omega
        first | exact hrest k hk | simp [h0, hrest k hk]
     ·skip
      have hs : rReadS t vn r x = r := if_neg (by simp only [cond_and] at hb; rw [← hd2]; exact Bool.eq_false_iff.1 hb)
      refine awp_skip ?_
      try simp only [go_sem, ↓reduceIte, Nat.reduceEqDiff, Nat.reduceLT, Nat.reduceSub, Nat.reduceAdd, Nat.reduceMul]
      refine hK4 _ _ _ ?_
      first | clear hK4 K4 | skip
      refine awp_reg1 zs [2, 3, 13, 14, 15] fun K hK => ?_
      try simp only [go_sem, ↓reduceIte, Nat.reduceEqDiff, Nat.reduceLT, Nat.reduceSub, Nat.reduceAdd, Nat.reduceMul]
      repeat refine peel ?_
      refine hK _ _ _ ?_; clear hK K
      try simp only [go_sem, ↓reduceIte, Nat.reduceEqDiff, Nat.reduceLT, Nat.reduceSub, Nat.reduceAdd, Nat.reduceMul]
      rw [hs] at hd
      refine ⟨⟨i + 1, _, by omega, by first | omega | (simp; omega), by first | (rw [w1 (by omega)]; done) | (rw [w1 (by omega)]; simp; done), by omega, ?_, ?_, hd⟩, by rw [w1 (by omega)]; simp; omega⟩
      · first | exact hHr | (simp [hHr]; done) | (simp [hHr, List.take_of_length_le]; rfl)
      · intro k hk; have h0 : k ≠ n + 1 := by omega
        first | exact hrest k hk | simp [h0, hrest k hk]
   ·skip
    have hge : i = v.length := by simp at hb; omega
    rw [hge, List.drop_length, List.foldl_nil] at hd
    refine awp_exit ?_
    try simp only [go_sem, ↓reduceIte, Nat.reduceEqDiff, Nat.reduceLT, Nat.reduceSub, Nat.reduceAdd, Nat.reduceMul]
    refine hK2 _ _ _ ?_
    first | clear hK2 K2 | skip
    refine awp_rq zs [10, 11] ?_
    refine awp_ret ?_
    try simp only [go_sem, ↓reduceIte, Nat.reduceEqDiff, Nat.reduceLT, Nat.reduceSub, Nat.reduceAdd, Nat.reduceMul]
    rw [hq]
    first
    | (refine ⟨_, rfl, ?_, .tup (.cons .nilsl (.cons (.kl trivial) .nil))⟩
       intro k hk; have h0 : k ≠ n := by omega
       simp [Heap.put, h0])
    | exact ⟨_, rfl, hrest, .tup (.cons (by rw [← hd]; exact .osl hHr (by omega) (by simp) (by rw [List.drop_zero, List.take_of_length_le (by simp)]; exact FrzL.kls _ (kls_ents _ _))) (.cons (.kl trivial) .nil))⟩
end Go.Proofs.YtijhkfhflpmajaaGreat


namespace Go.Proofs.YtijhkfhflpmajaaGreat
open Go Go.Sx Go.Rt Go.Proofs

set_option maxHeartbeats 4000000 in
theorem c_ref3_fate (s : List Fml) (clock low : Int) (major : Bool) (m : List Ent) (hr : ROk s m) (i : Nat) (hi : i < m.length) (H : Heap) (n : Nat) :
    Ret Tryz.prog 46 [schAV s, .int .i64 clock, .bool major, .int .i64 low, entsAV m, .int .i64 i] H n (.tup [entAV (rFate s clock major low m (m.getD i default)).1, .int .i64 (rFate s clock major low m (m.getD i default)).2]) H n := by
  have hl := hr.len
  have hnth : nth (m.map entAV) i = entAV (m.getD i default) := nth_map entAV m i hi
  have hge : goodE s (m.getD i default) := hr.good _ (by simp [List.getD, List.getElem?_eq_getElem hi])
  have hself : ∀ j, j < m.length → rAbv (m.getD i default) (m.getD j default) = true → (j : Int) ≠ i := by
    intro j hj h h9
    have : j = i := by omega
    subst this
    simp [rAbv] at h
  generalize m.getD i default = e at *
  have hfn := fam_nth s hge.1 hge.2.1
  have hg1 := hge.1
  have hg2 := hge.2.1
  refine Ret.fin ?_
  refine acalls_of_awp Tryz.func46 rfl Tryz.ntmps46 (congrArg Array.toList Tryz.results46) (by simp) ?_
  simp only [go_sem]
  refine awp_rq zs [1, 2, 3, 4, 5, 6, 12] ?_
  refine awp_reg zs [1, 2, 3, 4, 5, 6, 12, 14] fun K hK => ?_
  try simp only [go_sem, ↓reduceIte, Nat.reduceEqDiff, Nat.reduceLT, Nat.reduceSub, Nat.reduceAdd, Nat.reduceMul, Int.toNat_natCast, hnth]
  repeat (first | (refine And.intro ?_ ?_; · first | (simp; omega)) | refine peel ?_)
  refine hK _ _ _ ?_; clear hK K
  refine awp_seq_k fun K1 hK1 => ?_
  refine awp_reg zs [1, 2, 3, 4, 5, 6, 12, 14, 27] fun K hK => ?_
  try simp only [go_sem, ↓reduceIte, Nat.reduceEqDiff, Nat.reduceLT, Nat.reduceSub, Nat.reduceAdd, Nat.reduceMul]
  repeat refine peel ?_
  refine callK_use Tryz.func50 rfl rfl rfl ((c_ref3_version e _ _)) ?_
  try simp only [go_sem, ↓reduceIte, Nat.reduceEqDiff, Nat.reduceLT, Nat.reduceSub, Nat.reduceAdd, Nat.reduceMul]
  repeat refine peel ?_
  refine hK _ _ _ ?_; clear hK K
  refine awp_cnd (fun hb => ?_) (fun hb => ?_)
  ·skip
   have hv : rVer e = false := by simpa using hb
   refine awp_seq_k fun K2 hK2 => ?_
   refine awp_rq zs [2, 3, 4, 5, 12, 14, 15] ?_
   refine awp_block ?_
   -- loop 0: head [2, 3, 4, 5, 12, 14, 15]
   refine awp_loop (fun T' H' n' => ∃ (j : Nat), j ≤ m.length ∧ T' = tl [(2, .bool major), (3, .int .i64 low), (4, .sl 7 (m.map entAV)), (5, .int .i64 i), (12, .loc (n + 1) 0 0 0 []), (14, .loc (n + 2) 0 0 0 []), (15, .int .i64 j)] ∧ n + 3 ≤ n' ∧ H' (n + 1) = some (.arr 0 7 [ent0]) ∧ H' (n + 2) = some (.arr 0 7 [entAV e]) ∧ (∀ k, k < n → H' k = H k) ∧ (m.drop j).any (rAbv e) = m.any (rAbv e)) (fun T' _ _ => m.length - iv (T' 15)) ?_ ?_
   ·skip
    refine ⟨0, Nat.zero_le _, rfl, by omega, ?_, ?_, ?_, rfl⟩
    · first | (simp [Heap.put]; done) | (simp [Heap.put]; rfl)
    · first | (simp [Heap.put]; done) | (simp [Heap.put]; rfl)
    · intro k hk; have h0 : k ≠ n := by omega
      have h1 : ∀ j, k ≠ n + j := fun j => by omega
      simp [Heap.put, h0, h1]
   intro T1 H1 n1
   rintro ⟨j, hj, rfl, hn, hH1, hH2, hrest, hd⟩
   refine awp_seq_k fun K3 hK3 => ?_
   refine awp_rq zs [2, 3, 4, 5, 12, 14, 15, 31] ?_
   refine awp_cnd (fun hb => ?_) (fun hb => ?_)
   ·skip
    have hlj : j < m.length := by simpa using hb
    have hsj := hself j hlj
    rw [drop_cons m j hlj, List.any_cons] at hd
    have hnj : nth (m.map entAV) j = entAV (m.getD j default) := nth_map entAV m j hlj
    generalize m.getD j default = x at *
    have q1 : (n + 1 = n1) = False := by simp; omega
    have q2 : (n1 = n + 1) = False := by simp; omega
    have q3 : (n + 2 = n1) = False := by simp; omega
    have q4 : (n1 = n + 2) = False := by simp; omega
    refine awp_skip ?_
    try simp only [go_sem, ↓reduceIte, Nat.reduceEqDiff, Nat.reduceLT, Nat.reduceSub, Nat.reduceAdd, Nat.reduceMul]
    refine hK3 _ _ _ ?_
    first | clear hK3 K3 | skip
    refine awp_seq_k fun K4 hK4 => ?_
    refine awp_block ?_
    refine awp_reg zs [2, 3, 4, 5, 12, 14, 15, 16] fun K hK => ?_
    try simp only [go_sem, ↓reduceIte, Nat.reduceEqDiff, Nat.reduceLT, Nat.reduceSub, Nat.reduceAdd, Nat.reduceMul, Int.toNat_natCast, hnj]
    repeat (first | (refine And.intro ?_ ?_; · first | (simp; omega)) | refine peel ?_)
    refine hK _ _ _ ?_; clear hK K
    refine awp_reg zs [2, 3, 4, 5, 12, 14, 15, 16, 17] fun K hK => ?_
    try simp only [go_sem, ↓reduceIte, Nat.reduceEqDiff, Nat.reduceLT, Nat.reduceSub, Nat.reduceAdd, Nat.reduceMul, hH1, hH2, q1, q2, q3, q4]
    repeat (first | (refine And.intro ?_ ?_; · first | (intro _ hh; rw [hh]; rfl)) | refine peel ?_)
    refine callG_use Tryz.func60 rfl rfl rfl (fun _ => (c_ref3_Alike x.row e.row _ _)) ?_
    try simp only [go_sem, ↓reduceIte, Nat.reduceEqDiff, Nat.reduceLT, Nat.reduceSub, Nat.reduceAdd, Nat.reduceMul, hH1, hH2, q1, q2, q3, q4]
    repeat (first | (refine And.intro ?_ ?_; · first | (intro _ hh; rw [hh]; rfl)) | refine peel ?_)
    refine callG_use Tryz.func44 rfl rfl rfl (fun _ => (c_ref3_mates x e _ _)) ?_
    try simp only [go_sem, ↓reduceIte, Nat.reduceEqDiff, Nat.reduceLT, Nat.reduceSub, Nat.reduceAdd, Nat.reduceMul, hH1, hH2, q1, q2, q3, q4]
    repeat (first | (refine And.intro ?_ ?_; · first | (intro _ hh; rw [hh]; rfl)) | refine peel ?_)
    refine hK _ _ _ ?_; clear hK K
    refine awp_reg zs [2, 3, 4, 5, 12, 14, 15, 100] fun K hK => ?_
    try simp only [go_sem, ↓reduceIte, Nat.reduceEqDiff, Nat.reduceLT, Nat.reduceSub, Nat.reduceAdd, Nat.reduceMul, hH1, hH2, q1, q2, q3, q4]
    repeat (first | (refine And.intro ?_ ?_; · first | (intro _ hh; rw [hh]; rfl)) | refine peel ?_)
    refine hK _ _ _ ?_; clear hK K
    refine awp_cnd (fun hb => ?_) (fun hb => ?_)
    ·skip
     have hx : rAbv e x = true := by simp only [cond_and, cond_or, Bool.and_eq_true] at hb; unfold rAbv; rw [Bool.and_eq_true]; exact ⟨hb.1.1, hb.2⟩
     rw [hx, Bool.true_or] at hd
     have hend : rFate s clock major low m e = (e, 5) := by unfold rFate; rw [if_pos hv, if_pos hd.symm]
     refine awp_reg zs [12, 13] fun K hK => ?_
     try simp only [go_sem, ↓reduceIte, Nat.reduceEqDiff, Nat.reduceLT, Nat.reduceSub, Nat.reduceAdd, Nat.reduceMul, hH1, hH2, q1, q2, q3, q4]
     repeat refine peel ?_
     refine hK _ _ _ ?_; clear hK K
     refine awp_ret ?_
     try simp only [go_sem, ↓reduceIte, Nat.reduceEqDiff, Nat.reduceLT, Nat.reduceSub, Nat.reduceAdd, Nat.reduceMul]
     rw [hend]
     refine ⟨_, rfl, ?_, Frz.kl ⟨kl_ent _ _, trivial, trivial⟩⟩
     intro k hk
     have h0 : k ≠ n := by omega
     have h1 : k ≠ n + 1 := by omega
     have h2 : k ≠ n + 2 := by omega
     first | (simp [h0, h1, h2]; done) | (have h3 : k ≠ n1 := (by omega); simp [h0, h1, h2, h3, hrest k hk]; done) | (simp [h0, h1, h2, hrest k hk]; done)
    ·skip
     have hx : rAbv e x = false := by
       rw [Bool.eq_false_iff]; intro h9
       have h8 := hsj h9
       simp only [cond_and, cond_or] at hb; unfold rAbv at h9; rw [Bool.and_eq_true] at h9
       have h7 : ((j : Int) != (i : Int)) = true := by simpa using h8
       rw [h7] at hb
       rw [Bool.eq_false_iff] at hb
       exact hb (by rw [Bool.and_eq_true, Bool.and_eq_true]; exact ⟨⟨h9.1, rfl⟩, h9.2⟩)
     rw [hx, Bool.false_or] at hd
     refine awp_skip ?_
     try simp only [go_sem, ↓reduceIte, Nat.reduceEqDiff, Nat.reduceLT, Nat.reduceSub, Nat.reduceAdd, Nat.reduceMul]
     refine hK4 _ _ _ ?_
     first | clear hK4 K4 | skip
     refine awp_reg1 zs [2, 3, 4, 5, 12, 14, 15] fun K hK => ?_
     try simp only [go_sem, ↓reduceIte, Nat.reduceEqDiff, Nat.reduceLT, Nat.reduceSub, Nat.reduceAdd, Nat.reduceMul]
     repeat refine peel ?_
     refine hK _ _ _ ?_; clear hK K
     try simp only [go_sem, ↓reduceIte, Nat.reduceEqDiff, Nat.reduceLT, Nat.reduceSub, Nat.reduceAdd, Nat.reduceMul]
     refine ⟨⟨j + 1, by omega, by rw [w1 (by omega)], by omega, ?_, ?_, ?_, hd⟩, by rw [w1 (by omega)]; simp; omega⟩
     · first | (simp [q1, q2, q3, q4, hH1]; done) | (simp [q1, q2, q3, q4, hH1]; rfl)
     · first | (simp [q1, q2, q3, q4, hH2]; done) | (simp [q1, q2, q3, q4, hH2]; rfl)
     · intro k hk; have h0 : k ≠ n1 := by omega
       simp [h0, hrest k hk]
   ·skip
    have hge9 : j = m.length := by simp at hb; omega
    rw [hge9, List.drop_length, List.any_nil] at hd
    refine awp_exit ?_
    try simp only [go_sem, ↓reduceIte, Nat.reduceEqDiff, Nat.reduceLT, Nat.reduceSub, Nat.reduceAdd, Nat.reduceMul]
    refine hK2 _ _ _ ?_
    first | clear hK2 K2 | skip
    refine awp_seq_k fun K5 hK5 => ?_
    refine awp_reg zs [12, 14, 108] fun K hK => ?_
    try simp only [go_sem, ↓reduceIte, Nat.reduceEqDiff, Nat.reduceLT, Nat.reduceSub, Nat.reduceAdd, Nat.reduceMul, hH1, hH2]
    repeat refine peel ?_
    refine hK _ _ _ ?_; clear hK K
    refine awp_cnd (fun hb => ?_) (fun hb => ?_)
    ·skip
     have h108 : (major && decide (e.ts ≤ low)) = true := by simp only [cond_and] at hb; exact hb
     have hend : rFate s clock major low m e = (e, 5) := by unfold rFate; rw [if_pos hv, if_neg (by rw [← hd]; decide), if_pos h108]
     refine awp_reg zs [12, 13] fun K hK => ?_
     try simp only [go_sem, ↓reduceIte, Nat.reduceEqDiff, Nat.reduceLT, Nat.reduceSub, Nat.reduceAdd, Nat.reduceMul, hH1, hH2]
     repeat refine peel ?_
     refine hK _ _ _ ?_; clear hK K
     refine awp_ret ?_
     try simp only [go_sem, ↓reduceIte, Nat.reduceEqDiff, Nat.reduceLT, Nat.reduceSub, Nat.reduceAdd, Nat.reduceMul]
     rw [hend]
     refine ⟨_, rfl, ?_, Frz.kl ⟨kl_ent _ _, trivial, trivial⟩⟩
     intro k hk
     have h0 : k ≠ n := by omega
     have h1 : k ≠ n + 1 := by omega
     have h2 : k ≠ n + 2 := by omega
     first | (simp [h0, h1, h2]; done) | (have h3 : k ≠ n1 := (by omega); simp [h0, h1, h2, h3, hrest k hk]; done) | (simp [h0, h1, h2, hrest k hk]; done)
    ·skip
     have h108 : ¬ (major && decide (e.ts ≤ low)) = true := by simp only [cond_and] at hb; exact Bool.eq_false_iff.1 hb
     have hend : rFate s clock major low m e = (e, 0) := by unfold rFate; rw [if_pos hv, if_neg (by rw [← hd]; decide), if_neg h108]
     refine awp_skip ?_
     try simp only [go_sem, ↓reduceIte, Nat.reduceEqDiff, Nat.reduceLT, Nat.reduceSub, Nat.reduceAdd, Nat.reduceMul]
     refine hK5 _ _ _ ?_
     first | clear hK5 K5 | skip
     refine awp_reg zs [12, 13] fun K hK => ?_
     try simp only [go_sem, ↓reduceIte, Nat.reduceEqDiff, Nat.reduceLT, Nat.reduceSub, Nat.reduceAdd, Nat.reduceMul, hH1, hH2]
     repeat refine peel ?_
     refine hK _ _ _ ?_; clear hK K
     refine awp_ret ?_
     try simp only [go_sem, ↓reduceIte, Nat.reduceEqDiff, Nat.reduceLT, Nat.reduceSub, Nat.reduceAdd, Nat.reduceMul]
     rw [hend]
     refine ⟨_, rfl, ?_, Frz.kl ⟨kl_ent _ _, trivial, trivial⟩⟩
     intro k hk
     have h0 : k ≠ n := by omega
     have h1 : k ≠ n + 1 := by omega
     have h2 : k ≠ n + 2 := by omega
     first | (simp [h0, h1, h2]; done) | (have h3 : k ≠ n1 := (by omega); simp [h0, h1, h2, h3, hrest k hk]; done) | (simp [h0, h1, h2, hrest k hk]; done)
  ·skip
   have hv : rVer e = true := by simpa using hb
   have hv' : ¬ rVer e = false := by rw [hv]; decide
   refine awp_skip ?_
   try simp only [go_sem, ↓reduceIte, Nat.reduceEqDiff, Nat.reduceLT, Nat.reduceSub, Nat.reduceAdd, Nat.reduceMul]
   refine hK1 _ _ _ ?_
   first | clear hK1 K1 | skip
   refine awp_reg zs [1, 2, 4, 6, 12, 14, 18, 19] fun K hK => ?_
   try simp only [go_sem, ↓reduceIte, Nat.reduceEqDiff, Nat.reduceLT, Nat.reduceSub, Nat.reduceAdd, Nat.reduceMul]
   repeat refine peel ?_
   refine callK_use Tryz.func51 rfl rfl rfl ((c_ref3_group m e hr.lt _ _)) ?_
   try simp only [go_sem, ↓reduceIte, Nat.reduceEqDiff, Nat.reduceLT, Nat.reduceSub, Nat.reduceAdd, Nat.reduceMul]
   repeat refine peel ?_
   refine hK _ _ _ ?_; clear hK K
   refine awp_seq_k fun K6 hK6 => ?_
   refine awp_rq zs [1, 2, 4, 6, 12, 14, 18, 118] ?_
   refine awp_cnd (fun hb => ?_) (fun hb => ?_)
   ·skip
    have h1 : (rGroup m e).2 = false := by simpa using hb
    have hend : rFate s clock major low m e = (e, 1) := by unfold rFate; rw [if_neg hv', if_pos h1]
    refine awp_rq zs [12, 13] ?_
    refine awp_ret ?_
    try simp only [go_sem, ↓reduceIte, Nat.reduceEqDiff, Nat.reduceLT, Nat.reduceSub, Nat.reduceAdd, Nat.reduceMul]
    rw [hend]
    refine ⟨_, rfl, ?_, Frz.kl ⟨kl_ent _ _, trivial, trivial⟩⟩
    intro k hk
    have h0 : k ≠ n := by omega
    have h1 : k ≠ n + 1 := by omega
    have h2 : k ≠ n + 2 := by omega
    first | (simp [h0, h1, h2]; done) | (have h3 : k ≠ n1 := (by omega); simp [h0, h1, h2, h3, hrest k hk]; done) | (simp [h0, h1, h2, hrest k hk]; done)
   ·skip
    have h1 : ¬ (rGroup m e).2 = false := by simpa using hb
    refine awp_skip ?_
    try simp only [go_sem, ↓reduceIte, Nat.reduceEqDiff, Nat.reduceLT, Nat.reduceSub, Nat.reduceAdd, Nat.reduceMul]
    refine hK6 _ _ _ ?_
    first | clear hK6 K6 | skip
    refine awp_seq_k fun K7 hK7 => ?_
    refine awp_drw rfl zs [1, 2, 4, 6, 12, 14, 18, 125] [.q, .q, .m, .q, .c, .q] (by kernel_rfl) (fun _ _ _ _ _ h => h) fun K hK => ?_
    try simp only [go_sem, ↓reduceIte, Nat.reduceEqDiff, Nat.reduceLT, Nat.reduceSub, Nat.reduceAdd, Nat.reduceMul]
    repeat refine peel ?_
    refine callQG_use Tryz.func82 rfl rfl rfl (fun _ n => (c_ref3_Mask m e hr.lt _ _)) ?_
    try simp only [go_sem, ↓reduceIte, Nat.reduceEqDiff, Nat.reduceLT, Nat.reduceSub, Nat.reduceAdd, Nat.reduceMul]
    repeat refine peel ?_
    refine hK _ _ _ ?_; clear hK K
    refine awp_cnd (fun hb => ?_) (fun hb => ?_)
    ·skip
     have h2 : e.ts ≤ rMask m e := by simpa using hb
     have hend : rFate s clock major low m e = (e, 2) := by unfold rFate; rw [if_neg hv', if_neg h1, if_pos h2]
     refine awp_rq zs [12, 13] ?_
     refine awp_ret ?_
     try simp only [go_sem, ↓reduceIte, Nat.reduceEqDiff, Nat.reduceLT, Nat.reduceSub, Nat.reduceAdd, Nat.reduceMul]
     rw [hend]
     refine ⟨_, rfl, ?_, Frz.kl ⟨kl_ent _ _, trivial, trivial⟩⟩
     intro k hk
     have h0 : k ≠ n := by omega
     have h1 : k ≠ n + 1 := by omega
     have h2 : k ≠ n + 2 := by omega
     first | (simp [h0, h1, h2]; done) | (have h3 : k ≠ n1 := (by omega); simp [h0, h1, h2, h3, hrest k hk]; done) | (simp [h0, h1, h2, hrest k hk]; done)
    ·skip
     have h2 : ¬ e.ts ≤ rMask m e := by simpa using hb
     refine awp_skip ?_
     try simp only [go_sem, ↓reduceIte, Nat.reduceEqDiff, Nat.reduceLT, Nat.reduceSub, Nat.reduceAdd, Nat.reduceMul]
     refine hK7 _ _ _ ?_
     first | clear hK7 K7 | skip
     refine awp_reg zs [1, 2, 4, 6, 12, 14, 18, 20] fun K hK => ?_
     try simp only [go_sem, ↓reduceIte, Nat.reduceEqDiff, Nat.reduceLT, Nat.reduceSub, Nat.reduceAdd, Nat.reduceMul]
     repeat refine peel ?_
     refine callK_use Tryz.func83 rfl rfl rfl ((c_ref3_expired s clock e hr.ttl hge _ _)) ?_
     try simp only [go_sem, ↓reduceIte, Nat.reduceEqDiff, Nat.reduceLT, Nat.reduceSub, Nat.reduceAdd, Nat.reduceMul]
     repeat refine peel ?_
     refine hK _ _ _ ?_; clear hK K
     refine awp_seq_k fun K8 hK8 => ?_
     refine awp_rq zs [1, 2, 4, 6, 12, 14, 18, 131] ?_
     refine awp_cnd (fun hb => ?_) (fun hb => ?_)
     ·skip
      have h3 : rExp s clock e = true := hb
      have hend : rFate s clock major low m e = (e, 3) := by unfold rFate; rw [if_neg hv', if_neg h1, if_neg h2, if_pos h3]
      refine awp_rq zs [12, 13] ?_
      refine awp_ret ?_
      try simp only [go_sem, ↓reduceIte, Nat.reduceEqDiff, Nat.reduceLT, Nat.reduceSub, Nat.reduceAdd, Nat.reduceMul]
      rw [hend]
      refine ⟨_, rfl, ?_, Frz.kl ⟨kl_ent _ _, trivial, trivial⟩⟩
      intro k hk
      have h0 : k ≠ n := by omega
      have h1 : k ≠ n + 1 := by omega
      have h2 : k ≠ n + 2 := by omega
      first | (simp [h0, h1, h2]; done) | (have h3 : k ≠ n1 := (by omega); simp [h0, h1, h2, h3, hrest k hk]; done) | (simp [h0, h1, h2, hrest k hk]; done)
     ·skip
      have h3 : ¬ rExp s clock e = true := by rw [hb]; decide
      refine awp_skip ?_
      try simp only [go_sem, ↓reduceIte, Nat.reduceEqDiff, Nat.reduceLT, Nat.reduceSub, Nat.reduceAdd, Nat.reduceMul]
      refine hK8 _ _ _ ?_
      first | clear hK8 K8 | skip
      refine awp_seq_k fun K9 hK9 => ?_
      refine awp_rq zs [1, 2, 4, 6, 12, 14, 18, 134] ?_
      refine awp_cnd (fun hb => ?_) (fun hb => ?_)
      ·skip
       have h4 : (rGroup m e).1 = 0 := by simpa using hb
       refine awp_seq_k fun K10 hK10 => ?_
       refine awp_rq zs [12, 14, 135] ?_
       refine awp_cnd (fun hb => ?_) (fun hb => ?_)
       ·skip
        have h5 : major = true := hb
        have hend : rFate s clock major low m e = (e, 5) := by unfold rFate; rw [if_neg hv', if_neg h1, if_neg h2, if_neg h3, if_pos h4, if_pos h5]
        refine awp_rq zs [12, 13] ?_
        refine awp_ret ?_
        try simp only [go_sem, ↓reduceIte, Nat.reduceEqDiff, Nat.reduceLT, Nat.reduceSub, Nat.reduceAdd, Nat.reduceMul]
        rw [hend]
        refine ⟨_, rfl, ?_, Frz.kl ⟨kl_ent _ _, trivial, trivial⟩⟩
        intro k hk
        have h0 : k ≠ n := by omega
        have h1 : k ≠ n + 1 := by omega
        have h2 : k ≠ n + 2 := by omega
        first | (simp [h0, h1, h2]; done) | (have h3 : k ≠ n1 := (by omega); simp [h0, h1, h2, h3, hrest k hk]; done) | (simp [h0, h1, h2, hrest k hk]; done)
       ·skip
        have h5 : ¬ major = true := by rw [hb]; decide
        have hend : rFate s clock major low m e = (e, 0) := by unfold rFate; rw [if_neg hv', if_neg h1, if_neg h2, if_neg h3, if_pos h4, if_neg h5]
        refine awp_skip ?_
        try simp only [go_sem, ↓reduceIte, Nat.reduceEqDiff, Nat.reduceLT, Nat.reduceSub, Nat.reduceAdd, Nat.reduceMul]
        refine hK10 _ _ _ ?_
        first | clear hK10 K10 | skip
        refine awp_rq zs [12, 13] ?_
        refine awp_ret ?_
        try simp only [go_sem, ↓reduceIte, Nat.reduceEqDiff, Nat.reduceLT, Nat.reduceSub, Nat.reduceAdd, Nat.reduceMul]
        rw [hend]
        refine ⟨_, rfl, ?_, Frz.kl ⟨kl_ent _ _, trivial, trivial⟩⟩
        intro k hk
        have h0 : k ≠ n := by omega
        have h1 : k ≠ n + 1 := by omega
        have h2 : k ≠ n + 2 := by omega
        first | (simp [h0, h1, h2]; done) | (have h3 : k ≠ n1 := (by omega); simp [h0, h1, h2, h3, hrest k hk]; done) | (simp [h0, h1, h2, hrest k hk]; done)
      ·skip
       have h4 : ¬ (rGroup m e).1 = 0 := by simpa using hb
       refine awp_skip ?_
       try simp only [go_sem, ↓reduceIte, Nat.reduceEqDiff, Nat.reduceLT, Nat.reduceSub, Nat.reduceAdd, Nat.reduceMul]
       refine hK9 _ _ _ ?_
       first | clear hK9 K9 | skip
       refine awp_seq_k fun K11 hK11 => ?_
       refine awp_drw rfl zs [12, 14, 18, 150] [.q, .m, .m, .q, .c, .q, .q, .q, .q, .q, .q, .q, .q] (by kernel_rfl) (fun _ _ _ _ _ h => h) fun K hK => ?_
       try simp only [go_sem, ↓reduceIte, Nat.reduceEqDiff, Nat.reduceLT, Nat.reduceSub, Nat.reduceAdd, Nat.reduceMul, hfn]
       repeat refine peel ?_
       refine callQG_use Tryz.func71 rfl rfl rfl (fun _ n => (c_ref3_rank s clock m e hr.lt hr.ttl hr.good _ _)) ?_
       try simp only [go_sem, ↓reduceIte, Nat.reduceEqDiff, Nat.reduceLT, Nat.reduceSub, Nat.reduceAdd, Nat.reduceMul, hfn]
       repeat refine peel ?_
       refine hK _ _ _ ?_; clear hK K
       refine awp_cnd (fun hb => ?_) (fun hb => ?_)
       ·skip
        have h6 : (famAt s e.fam).max < rRank s clock m e := by simpa using hb
        have hend : rFate s clock major low m e = (e, 4) := by unfold rFate; rw [if_neg hv', if_neg h1, if_neg h2, if_neg h3, if_neg h4, if_pos h6]
        refine awp_rq zs [12, 13] ?_
        refine awp_ret ?_
        try simp only [go_sem, ↓reduceIte, Nat.reduceEqDiff, Nat.reduceLT, Nat.reduceSub, Nat.reduceAdd, Nat.reduceMul]
        rw [hend]
        refine ⟨_, rfl, ?_, Frz.kl ⟨kl_ent _ _, trivial, trivial⟩⟩
        intro k hk
        have h0 : k ≠ n := by omega
        have h1 : k ≠ n + 1 := by omega
        have h2 : k ≠ n + 2 := by omega
        first | (simp [h0, h1, h2]; done) | (have h3 : k ≠ n1 := (by omega); simp [h0, h1, h2, h3, hrest k hk]; done) | (simp [h0, h1, h2, hrest k hk]; done)
       ·skip
        have h6 : ¬ (famAt s e.fam).max < rRank s clock m e := by simpa using hb
        refine awp_skip ?_
        try simp only [go_sem, ↓reduceIte, Nat.reduceEqDiff, Nat.reduceLT, Nat.reduceSub, Nat.reduceAdd, Nat.reduceMul]
        refine hK11 _ _ _ ?_
        first | clear hK11 K11 | skip
        refine awp_seq_k fun K12 hK12 => ?_
        refine awp_rq zs [12, 14, 153] ?_
        refine awp_cnd (fun hb => ?_) (fun hb => ?_)
        ·skip
         have h7 : (rGroup m e).1 = 2 := by simpa using hb
         have hend : rFate s clock major low m e = (hsk e, 0) := by unfold rFate; rw [if_neg hv', if_neg h1, if_neg h2, if_neg h3, if_neg h4, if_neg h6, if_pos h7]
         refine awp_rq zs [12, 14] ?_
         refine awp_reg1 zs [12, 14] fun K hK => ?_
         try simp only [go_sem, ↓reduceIte, Nat.reduceEqDiff, Nat.reduceLT, Nat.reduceSub, Nat.reduceAdd, Nat.reduceMul]
         repeat refine peel ?_
         refine hK _ _ _ ?_; clear hK K
         try simp only [go_sem, ↓reduceIte, Nat.reduceEqDiff, Nat.reduceLT, Nat.reduceSub, Nat.reduceAdd, Nat.reduceMul]
         refine hK12 _ _ _ ?_
         first | clear hK12 K12 | skip
         first | refine awp_wk_obj (n + 2) (els' := [entAV (hsk e)]) (Heap.put_same _ _ _) ⟨Wk.agg ⟨.refl _, .refl _, .refl _, .refl _, .refl _, .refl _, Wk.nilsl 1, trivial⟩, trivial⟩ ?_ | skip
         refine awp_rq zs [12, 13] ?_
         refine awp_ret ?_
         try simp only [go_sem, ↓reduceIte, Nat.reduceEqDiff, Nat.reduceLT, Nat.reduceSub, Nat.reduceAdd, Nat.reduceMul]
         rw [hend]
         refine ⟨_, rfl, ?_, Frz.kl ⟨kl_ent _ _, trivial, trivial⟩⟩
         intro k hk
         have h0 : k ≠ n := by omega
         have h1 : k ≠ n + 1 := by omega
         have h2 : k ≠ n + 2 := by omega
         first | (simp [h0, h1, h2]; done) | (have h3 : k ≠ n1 := (by omega); simp [h0, h1, h2, h3, hrest k hk]; done) | (simp [h0, h1, h2, hrest k hk]; done)
        ·skip
         have h7 : ¬ (rGroup m e).1 = 2 := by simpa using hb
         have hend : rFate s clock major low m e = (e, 0) := by unfold rFate; rw [if_neg hv', if_neg h1, if_neg h2, if_neg h3, if_neg h4, if_neg h6, if_neg h7]
         refine awp_skip ?_
         try simp only [go_sem, ↓reduceIte, Nat.reduceEqDiff, Nat.reduceLT, Nat.reduceSub, Nat.reduceAdd, Nat.reduceMul]
         refine hK12 _ _ _ ?_
         first | clear hK12 K12 | skip
         first | refine awp_wk_obj (n + 2) (els' := [entAV (hsk e)]) (Heap.put_same _ _ _) ⟨Wk.agg ⟨.refl _, .refl _, .refl _, .refl _, .refl _, .refl _, Wk.nilsl 1, trivial⟩, trivial⟩ ?_ | skip
         refine awp_rq zs [12, 13] ?_
         refine awp_ret ?_
         try simp only [go_sem, ↓reduceIte, Nat.reduceEqDiff, Nat.reduceLT, Nat.reduceSub, Nat.reduceAdd, Nat.reduceMul]
         rw [hend]
         refine ⟨_, rfl, ?_, Frz.kl ⟨kl_ent _ _, trivial, trivial⟩⟩
         intro k hk
         have h0 : k ≠ n := by omega
         have h1 : k ≠ n + 1 := by omega
         have h2 : k ≠ n + 2 := by omega
         first | (simp [h0, h1, h2]; done) | (have h3 : k ≠ n1 := (by omega); simp [h0, h1, h2, h3, hrest k hk]; done) | (simp [h0, h1, h2, hrest k hk]; done)
end Go.Proofs.YtijhkfhflpmajaaGreat


namespace Go.Proofs.YtijhkfhflpmajaaGreat
open Go Go.Sx Go.Rt Go.Proofs

theorem rFate_fits (s : List Fml) (clock low : Int) (major : Bool) (m : List Ent) (e : Ent) (h : e.fits) : (rFate s clock major low m e).1.fits := by
  have hh : (hsk e).fits := ⟨h.1, h.2.1, by simp [hsk]⟩
  unfold rFate
  repeat' split
  all_goals first | exact h | exact hh

theorem c_ref3_Squash (s : List Fml) (clock low : Int) (major : Bool) (l : List Ent) (hl : l.length ≤ 1000000000) (hf : ∀ e ∈ l, e.fits) (H : Heap) (n : Nat) : Ret Tryz.prog 23 [schAV s, .int .i64 clock, .bool major, .int .i64 low, entsAV l] H n (.tup [entsAV (rSquashE s clock major low l).1, .int .i64 (rSquashE s clock major low l).2]) H n := by
  refine Ret.fin ?_
  refine acalls_of_awp Tryz.func23 rfl Tryz.ntmps23 (congrArg Array.toList Tryz.results23) (by simp) ?_
  simp only [go_sem]
  refine awp_rq zs [1, 2, 3, 4, 5] ?_
  refine awp_reg zs [1, 2, 3, 4, 5, 12] fun K hK => ?_
  try simp only [go_sem, ↓reduceIte, Nat.reduceEqDiff, Nat.reduceLT, Nat.reduceSub, Nat.reduceAdd, Nat.reduceMul]
  repeat refine peel ?_
  refine callK_use Tryz.func39 rfl rfl rfl ((c_ref3_asked s clock low 0 1 l (by omega) _ _)) ?_
  try simp only [go_sem, ↓reduceIte, Nat.reduceEqDiff, Nat.reduceLT, Nat.reduceSub, Nat.reduceAdd, Nat.reduceMul]
  repeat refine peel ?_
  refine hK _ _ _ ?_; clear hK K
  refine awp_seq_k fun K1 hK1 => ?_
  refine awp_rq zs [1, 2, 3, 4, 5, 12, 24] ?_
  refine awp_cnd (fun hb => ?_) (fun hb => ?_)
  ·skip
   have h14 : rAsked s clock low 0 1 l ≠ 0 := by simpa using hb
   have hq : rSquashE s clock major low l = ([], rAsked s clock low 0 1 l) := by unfold rSquashE; rw [if_pos h14]
   refine awp_rq zs [10, 11] ?_
   refine awp_ret ?_
   try simp only [go_sem, ↓reduceIte, Nat.reduceEqDiff, Nat.reduceLT, Nat.reduceSub, Nat.reduceAdd, Nat.reduceMul]
   rw [hq]
   first
   | (refine ⟨_, rfl, ?_, .tup (.cons .nilsl (.cons (.kl trivial) .nil))⟩
      intro k hk; have h0 : k ≠ n := by omega
      simp [Heap.put, h0])
   | exact ⟨_, rfl, hrest, .tup (.cons (by rw [← hd]; exact .osl hHr (by omega) (by simp) (by rw [List.drop_zero, List.take_of_length_le (by simp)]; exact FrzL.kls _ (kls_ents _ _))) (.cons (.kl trivial) .nil))⟩
  ·skip
   have h14 : ¬ rAsked s clock low 0 1 l ≠ 0 := by simpa using hb
   have hq : rSquashE s clock major low l = (rSquash s clock major low (rOrd l), 0) := by unfold rSquashE; rw [if_neg h14]
   have hro := rReady hl hf (by simpa using h14)
   refine awp_skip ?_
   try simp only [go_sem, ↓reduceIte, Nat.reduceEqDiff, Nat.reduceLT, Nat.reduceSub, Nat.reduceAdd, Nat.reduceMul]
   refine hK1 _ _ _ ?_
   first | clear hK1 K1 | skip
   refine awp_reg zs [1, 2, 3, 5, 13] fun K hK => ?_
   try simp only [go_sem, ↓reduceIte, Nat.reduceEqDiff, Nat.reduceLT, Nat.reduceSub, Nat.reduceAdd, Nat.reduceMul]
   repeat refine peel ?_
   refine callK_use Tryz.func38 rfl rfl rfl ((c_ref3_ordered l hl hf _ _)) ?_
   try simp only [go_sem, ↓reduceIte, Nat.reduceEqDiff, Nat.reduceLT, Nat.reduceSub, Nat.reduceAdd, Nat.reduceMul]
   repeat refine peel ?_
   refine hK _ _ _ ?_; clear hK K
   generalize rOrd l = m at *
   have hml := hro.len
   refine awp_rq zs [1, 2, 3, 5, 13, 14] ?_
   refine awp_seq_k fun K2 hK2 => ?_
   refine awp_adopt_tmp 14 7 rfl ?_
   refine awp_rq zs [1, 2, 3, 5, 13, 14, 15] ?_
   refine awp_block ?_
   -- loop 0: head [1, 2, 3, 5, 13, 14, 15]
   refine awp_loop (fun T' H' n' => ∃ (i : Nat) (r : List Ent), i ≤ m.length ∧ r.length ≤ i ∧ T' = tl [(1, .int .i64 clock), (2, .bool major), (3, .int .i64 low), (5, .loc n 0 0 0 []), (13, .sl 7 (m.map entAV)), (14, .osl (n + 1) r.length 0 r.length), (15, .int .i64 i)] ∧ n + 2 ≤ n' ∧ H' n = some (.arr 0 1 [.agg [.sl 3 (s.map famAV)]]) ∧ H' (n + 1) = some (.arr r.length 7 (r.map entAV)) ∧ (∀ k, k < n → H' k = H k) ∧ (m.drop i).foldl (rSqS s clock major low m) r = rSquash s clock major low m) (fun T' _ _ => m.length - iv (T' 15)) ?_ ?_
   ·skip
    refine ⟨0, [], Nat.zero_le _, Nat.zero_le _, rfl, by omega, ?_, ?_, ?_, rfl⟩
    · first | (simp [Heap.put]; done) | (simp [Heap.put]; rfl)
    · first | (simp [Heap.put]; done) | (simp [Heap.put]; rfl)
    · intro k hk; have h0 : k ≠ n := by omega
      have h1 : k ≠ n + 1 := by omega
      simp [Heap.put, h0, h1]
   intro T1 H1 n1
   rintro ⟨i, r, hi, hri, rfl, hn, hHn, hHr, hrest, hd⟩
   refine awp_seq_k fun K3 hK3 => ?_
   refine awp_rq zs [1, 2, 3, 5, 13, 14, 15, 31] ?_
   refine awp_cnd (fun hb => ?_) (fun hb => ?_)
   ·skip
    have hlt : i < m.length := by simpa using hb
    rw [drop_cons m i hlt, List.foldl_cons] at hd
    have hfe : (m.getD i default).fits := (hro.good _ (by simp [List.getD, List.getElem?_eq_getElem hlt])).2.2.1
    have hff := rFate_fits s clock low major m _ hfe
    have hfate := fun H9 n9 => c_ref3_fate s clock low major m hro i hlt H9 n9
    generalize m.getD i default = e at *
    have q1 : (n + 1 = n1) = False := by simp; omega
    have q2 : (n1 = n + 1) = False := by simp; omega
    have q3 : (n = n1) = False := by simp; omega
    have q4 : (n1 = n) = False := by simp; omega
    refine awp_skip ?_
    try simp only [go_sem, ↓reduceIte, Nat.reduceEqDiff, Nat.reduceLT, Nat.reduceSub, Nat.reduceAdd, Nat.reduceMul]
    refine hK3 _ _ _ ?_
    first | clear hK3 K3 | skip
    refine awp_seq_k fun K4 hK4 => ?_
    refine awp_block ?_
    refine awp_reg zs [1, 2, 3, 5, 13, 14, 15, 16, 17] fun K hK => ?_
    try simp only [go_sem, ↓reduceIte, Nat.reduceEqDiff, Nat.reduceLT, Nat.reduceSub, Nat.reduceAdd, Nat.reduceMul, Int.toNat_natCast, hHn, List.getD_cons_zero, List.getD_cons_succ]
    repeat (first | (refine And.intro ?_ ?_; · first | exact entAV_sz _ | exact ⟨rfl, by rw [entAV_sz], rfl⟩ | exact ⟨rfl, entAV_sz _, rfl⟩) | refine peel ?_)
    refine callK_use Tryz.func46 rfl rfl rfl ((hfate _ _)) ?_
    try simp only [go_sem, ↓reduceIte, Nat.reduceEqDiff, Nat.reduceLT, Nat.reduceSub, Nat.reduceAdd, Nat.reduceMul, Int.toNat_natCast, hHn, List.getD_cons_zero, List.getD_cons_succ]
    repeat (first | (refine And.intro ?_ ?_; · first | exact entAV_sz _ | exact ⟨rfl, by rw [entAV_sz], rfl⟩ | exact ⟨rfl, entAV_sz _, rfl⟩) | refine peel ?_)
    refine hK _ _ _ ?_; clear hK K
    refine awp_rq zs [1, 2, 3, 5, 13, 14, 15, 16, 45] ?_
    refine awp_cnd (fun hb => ?_) (fun hb => ?_)
    ·skip
     have hs : rSqS s clock major low m r e = r ++ [(rFate s clock major low m e).1] := if_pos (by simpa using hb)
     refine awp_reg1 zs [1, 2, 3, 5, 13, 14, 15] fun K hK => ?_
     try simp only [go_sem, ↓reduceIte, Nat.reduceEqDiff, Nat.reduceLT, Nat.reduceSub, Nat.reduceAdd, Nat.reduceMul, hHr, q1, q2, q3, q4]
     repeat (first | (refine And.intro ?_ ?_; · first | exact ⟨rfl, by decide, by simp [AV.sz, AV.szs, AV.memOK]⟩ | (simp; omega) | exact ⟨by simp, .inr trivial, by simp; omega, by simp; omega⟩) | refine peel ?_)
     refine callK_use Tryz.func34 rfl rfl rfl ((c_ref3_Clone (rFate s clock major low m e).1 hff _ _)) ?_
     try simp only [go_sem, ↓reduceIte, Nat.reduceEqDiff, Nat.reduceLT, Nat.reduceSub, Nat.reduceAdd, Nat.reduceMul, hHr, q1, q2, q3, q4]
     repeat (first | (refine And.intro ?_ ?_; · first | exact ⟨rfl, by decide, by simp [AV.sz, AV.szs, AV.memOK]⟩ | (simp; omega) | exact ⟨by simp, .inr trivial, by simp; omega, by simp; omega⟩) | refine peel ?_)
     refine hK _ _ _ ?_; clear hK K
     try simp only [go_sem, ↓reduceIte, Nat.reduceEqDiff, Nat.reduceLT, Nat.reduceSub, Nat.reduceAdd, Nat.reduceMul]
     refine hK4 _ _ _ ?_
     first | clear hK4 K4 | skip
     refine awp_reg1 zs [1, 2, 3, 5, 13, 14, 15] fun K hK => ?_
     try simp only [go_sem, ↓reduceIte, Nat.reduceEqDiff, Nat.reduceLT, Nat.reduceSub, Nat.reduceAdd, Nat.reduceMul]
     repeat refine peel ?_
     refine hK _ _ _ ?_; clear hK K
     try simp only [go_sem, ↓reduceIte, Nat.reduceEqDiff, Nat.reduceLT, Nat.reduceSub, Nat.reduceAdd, Nat.reduceMul]
     rw [hs] at hd
     refine ⟨⟨i + 1, _, by omega, by first | omega | (simp; omega), by first | (rw [w1 (by omega)]; done) | (rw [w1 (by omega)]; simp; done), by omega, ?_, ?_, ?_, hd⟩, by rw [w1 (by omega)]; simp; omega⟩
     · first | exact hHn | (simp [hHn, q1, q2, q3, q4]; done) | (simp [hHn, q1, q2, q3, q4]; rfl)
     · first | exact hHr | (simp [hHr, q1, q2, q3, q4]; done) | (simp [hHr, q1, q2, q3, q4, List.take_of_length_le]; rfl)
     · intro k hk; have h0 : k ≠ n + 1 := by omega
       have h1 : k ≠ n1 := by omega
       first | exact hrest k hk | simp [h0, h1, hrest k hk]
    ·skip
     have hs : rSqS s clock major low m r e = r := if_neg (by simpa using hb)
     refine awp_skip ?_
     try simp only [go_sem, ↓reduceIte, Nat.reduceEqDiff, Nat.reduceLT, Nat.reduceSub, Nat.reduceAdd, Nat.reduceMul]
     refine hK4 _ _ _ ?_
     first | clear hK4 K4 | skip
     refine awp_reg1 zs [1, 2, 3, 5, 13, 14, 15] fun K hK => ?_
     try simp only [go_sem, ↓reduceIte, Nat.reduceEqDiff, Nat.reduceLT, Nat.reduceSub, Nat.reduceAdd, Nat.reduceMul]
     repeat refine peel ?_
     refine hK _ _ _ ?_; clear hK K
     try simp only [go_sem, ↓reduceIte, Nat.reduceEqDiff, Nat.reduceLT, Nat.reduceSub, Nat.reduceAdd, Nat.reduceMul]
     rw [hs] at hd
     refine ⟨⟨i + 1, _, by omega, by first | omega | (simp; omega), by first | (rw [w1 (by omega)]; done) | (rw [w1 (by omega)]; simp; done), by omega, ?_, ?_, ?_, hd⟩, by rw [w1 (by omega)]; simp; omega⟩
     · first | exact hHn | (simp [hHn, q1, q2, q3, q4]; done) | (simp [hHn, q1, q2, q3, q4]; rfl)
     · first | exact hHr | (simp [hHr, q1, q2, q3, q4]; done) | (simp [hHr, q1, q2, q3, q4, List.take_of_length_le]; rfl)
     · intro k hk; have h0 : k ≠ n + 1 := by omega
       have h1 : k ≠ n1 := by omega
       first | exact hrest k hk | simp [h0, h1, hrest k hk]
   ·skip
    have hge : i = m.length := by simp at hb; omega
    rw [hge, List.drop_length, List.foldl_nil] at hd
    refine awp_exit ?_
    try simp only [go_sem, ↓reduceIte, Nat.reduceEqDiff, Nat.reduceLT, Nat.reduceSub, Nat.reduceAdd, Nat.reduceMul]
    refine hK2 _ _ _ ?_
    first | clear hK2 K2 | skip
    refine awp_rq zs [10, 11] ?_
    refine awp_ret ?_
    try simp only [go_sem, ↓reduceIte, Nat.reduceEqDiff, Nat.reduceLT, Nat.reduceSub, Nat.reduceAdd, Nat.reduceMul]
    rw [hq]
    first
    | (refine ⟨_, rfl, ?_, .tup (.cons .nilsl (.cons (.kl trivial) .nil))⟩
       intro k hk; have h0 : k ≠ n := by omega
       simp [Heap.put, h0])
    | exact ⟨_, rfl, hrest, .tup (.cons (by rw [← hd]; exact .osl hHr (by omega) (by simp) (by rw [List.drop_zero, List.take_of_length_le (by simp)]; exact FrzL.kls _ (kls_ents _ _))) (.cons (.kl trivial) .nil))⟩

theorem c_ref3_Top (s : List Fml) (clock : Int) (l : List Ent) (hl : l.length ≤ 1000000000) (hf : ∀ e ∈ l, e.fits) (H : Heap) (n : Nat) : Ret Tryz.prog 25 [schAV s, .int .i64 clock, entsAV l] H n (.tup [.int .i64 (rTopE s clock l).1, .int .i64 (rTopE s clock l).2]) H n := by
  refine Ret.fin ?_
  refine acalls_of_awp Tryz.func25 rfl Tryz.ntmps25 (congrArg Array.toList Tryz.results25) (by simp) ?_
  simp only [go_sem]
  refine awp_rq zs [1, 2, 3] ?_
  refine awp_reg zs [1, 2, 3, 8] fun K hK => ?_
  try simp only [go_sem, ↓reduceIte, Nat.reduceEqDiff, Nat.reduceLT, Nat.reduceSub, Nat.reduceAdd, Nat.reduceMul]
  repeat refine peel ?_
  refine callK_use Tryz.func39 rfl rfl rfl ((c_ref3_asked s clock 0 0 1 l (by omega) _ _)) ?_
  try simp only [go_sem, ↓reduceIte, Nat.reduceEqDiff, Nat.reduceLT, Nat.reduceSub, Nat.reduceAdd, Nat.reduceMul]
  repeat refine peel ?_
  refine hK _ _ _ ?_; clear hK K
  refine awp_seq_k fun K1 hK1 => ?_
  refine awp_rq zs [1, 2, 3, 8, 20] ?_
  refine awp_cnd (fun hb => ?_) (fun hb => ?_)
  ·skip
   have h14 : rAsked s clock 0 0 1 l ≠ 0 := by simpa using hb
   have hq : rTopE s clock l = (0, rAsked s clock 0 0 1 l) := by unfold rTopE; rw [if_pos h14]
   refine awp_rq zs [6, 7] ?_
   refine awp_ret ?_
   try simp only [go_sem, ↓reduceIte, Nat.reduceEqDiff, Nat.reduceLT, Nat.reduceSub, Nat.reduceAdd, Nat.reduceMul]
   rw [hq]
   first
   | (refine ⟨_, rfl, ?_, Frz.kl ⟨trivial, trivial, trivial⟩⟩
      intro k hk; have h0 : k ≠ n := by omega
      simp [Heap.put, h0]; done)
   | exact ⟨_, rfl, hrest, .tup (.cons (by rw [← hd]; exact .kl trivial) (.cons (.kl trivial) .nil))⟩
  ·skip
   have h14 : ¬ rAsked s clock 0 0 1 l ≠ 0 := by simpa using hb
   have hq : rTopE s clock l = (rTop s clock (rOrd l), 0) := by unfold rTopE; rw [if_neg h14]
   have hro := rReady hl hf (by simpa using h14)
   refine awp_skip ?_
   try simp only [go_sem, ↓reduceIte, Nat.reduceEqDiff, Nat.reduceLT, Nat.reduceSub, Nat.reduceAdd, Nat.reduceMul]
   refine hK1 _ _ _ ?_
   first | clear hK1 K1 | skip
   refine awp_reg zs [1, 3, 9] fun K hK => ?_
   try simp only [go_sem, ↓reduceIte, Nat.reduceEqDiff, Nat.reduceLT, Nat.reduceSub, Nat.reduceAdd, Nat.reduceMul]
   repeat refine peel ?_
   refine callK_use Tryz.func38 rfl rfl rfl ((c_ref3_ordered l hl hf _ _)) ?_
   try simp only [go_sem, ↓reduceIte, Nat.reduceEqDiff, Nat.reduceLT, Nat.reduceSub, Nat.reduceAdd, Nat.reduceMul]
   repeat refine peel ?_
   refine hK _ _ _ ?_; clear hK K
   generalize rOrd l = m at *
   have hml := hro.len
   refine awp_rq zs [1, 3, 9, 10] ?_
   refine awp_seq_k fun K2 hK2 => ?_
   refine awp_rq zs [1, 3, 9, 10, 11] ?_
   refine awp_block ?_
   -- loop 0: head [1, 3, 9, 10, 11]
   refine awp_loop (fun T' H' n' => ∃ (i : Nat) (t : Int), i ≤ m.length ∧ T' = tl [(1, .int .i64 clock), (3, .loc n 0 0 0 []), (9, .sl 7 (m.map entAV)), (10, .int .i64 t), (11, .int .i64 i)] ∧ n + 1 ≤ n' ∧ H' n = some (.arr 0 1 [.agg [.sl 3 (s.map famAV)]]) ∧ (∀ k, k < n → H' k = H k) ∧ (m.drop i).foldl (rTopS s clock m) t = rTop s clock m) (fun T' _ _ => m.length - iv (T' 11)) ?_ ?_
   ·skip
    refine ⟨0, 0, Nat.zero_le _, rfl, by omega, ?_, ?_, rfl⟩
    · first | (simp [Heap.put]; done) | (simp [Heap.put]; rfl)
    · intro k hk; have h0 : k ≠ n := by omega
      simp [Heap.put, h0]
   intro T1 H1 n1
   rintro ⟨i, t, hi, rfl, hn, hHn, hrest, hd⟩
   refine awp_seq_k fun K3 hK3 => ?_
   refine awp_rq zs [1, 3, 9, 10, 11, 27] ?_
   refine awp_cnd (fun hb => ?_) (fun hb => ?_)
   ·skip
    have hlt : i < m.length := by simpa using hb
    rw [drop_cons m i hlt, List.foldl_cons] at hd
    have hnth : nth (m.map entAV) i = entAV (m.getD i default) := nth_map entAV m i hlt
    have hgx : goodE s (m.getD i default) := hro.good _ (by simp [List.getD, List.getElem?_eq_getElem hlt])
    generalize m.getD i default = x at *
    refine awp_skip ?_
    try simp only [go_sem, ↓reduceIte, Nat.reduceEqDiff, Nat.reduceLT, Nat.reduceSub, Nat.reduceAdd, Nat.reduceMul]
    refine hK3 _ _ _ ?_
    first | clear hK3 K3 | skip
    refine awp_seq_k fun K4 hK4 => ?_
    refine awp_block ?_
    refine awp_seq_k fun K5 hK5 => ?_
    refine awp_reg zs [1, 3, 9, 10, 11, 35] fun K hK => ?_
    try simp only [go_sem, ↓reduceIte, Nat.reduceEqDiff, Nat.reduceLT, Nat.reduceSub, Nat.reduceAdd, Nat.reduceMul, Int.toNat_natCast, hnth]
    repeat (first | (refine And.intro ?_ ?_; · first | (simp; omega)) | refine peel ?_)
    refine callK_use Tryz.func50 rfl rfl rfl ((c_ref3_version x _ _)) ?_
    try simp only [go_sem, ↓reduceIte, Nat.reduceEqDiff, Nat.reduceLT, Nat.reduceSub, Nat.reduceAdd, Nat.reduceMul, Int.toNat_natCast, hnth]
    repeat (first | (refine And.intro ?_ ?_; · first | (simp; omega)) | refine peel ?_)
    refine hK _ _ _ ?_; clear hK K
    refine awp_cnd (fun hb => ?_) (fun hb => ?_)
    ·skip
     have hv : rVer x = false := by simpa using hb
     have hs : rTopS s clock m t x = t := by unfold rTopS; rw [if_neg (by rw [hv]; decide)]
     refine awp_exit ?_
     try simp only [go_sem, ↓reduceIte, Nat.reduceEqDiff, Nat.reduceLT, Nat.reduceSub, Nat.reduceAdd, Nat.reduceMul]
     refine hK4 _ _ _ ?_
     first | clear hK4 K4 | skip
     refine awp_reg1 zs [1, 3, 9, 10, 11] fun K hK => ?_
     try simp only [go_sem, ↓reduceIte, Nat.reduceEqDiff, Nat.reduceLT, Nat.reduceSub, Nat.reduceAdd, Nat.reduceMul]
     repeat refine peel ?_
     refine hK _ _ _ ?_; clear hK K
     try simp only [go_sem, ↓reduceIte, Nat.reduceEqDiff, Nat.reduceLT, Nat.reduceSub, Nat.reduceAdd, Nat.reduceMul]
     rw [hs] at hd
     exact ⟨⟨i + 1, _, by omega, by rw [w1 (by omega)], by omega, hHn, hrest, hd⟩, by rw [w1 (by omega)]; simp; omega⟩
    ·skip
     have hv : rVer x = true := by simpa using hb
     refine awp_skip ?_
     try simp only [go_sem, ↓reduceIte, Nat.reduceEqDiff, Nat.reduceLT, Nat.reduceSub, Nat.reduceAdd, Nat.reduceMul]
     refine hK5 _ _ _ ?_
     first | clear hK5 K5 | skip
     refine awp_reg zs [1, 3, 9, 10, 11, 12] fun K hK => ?_
     try simp only [go_sem, ↓reduceIte, Nat.reduceEqDiff, Nat.reduceLT, Nat.reduceSub, Nat.reduceAdd, Nat.reduceMul, Int.toNat_natCast, hnth]
     repeat (first | (refine And.intro ?_ ?_; · first | (simp; omega)) | refine peel ?_)
     refine callK_use Tryz.func51 rfl rfl rfl ((c_ref3_group m x hro.lt _ _)) ?_
     try simp only [go_sem, ↓reduceIte, Nat.reduceEqDiff, Nat.reduceLT, Nat.reduceSub, Nat.reduceAdd, Nat.reduceMul, Int.toNat_natCast, hnth]
     repeat (first | (refine And.intro ?_ ?_; · first | (simp; omega)) | refine peel ?_)
     refine hK _ _ _ ?_; clear hK K
     refine awp_drw rfl zs [1, 3, 9, 10, 11, 12, 14] [.q, .m, .m, .m, .m, .q, .q, .c, .q] (by kernel_rfl) (fun _ _ _ _ _ h => h) fun K hK => ?_
     try simp only [go_sem, ↓reduceIte, Nat.reduceEqDiff, Nat.reduceLT, Nat.reduceSub, Nat.reduceAdd, Nat.reduceMul, Int.toNat_natCast, hnth, hHn]
     repeat (first | (refine And.intro ?_ ?_; · first | (simp; omega)) | refine peel ?_)
     refine callQG_use Tryz.func52 rfl rfl rfl (fun _ n => (c_ref3_in s clock m x hro.lt hro.ttl hgx _ _)) ?_
     try simp only [go_sem, ↓reduceIte, Nat.reduceEqDiff, Nat.reduceLT, Nat.reduceSub, Nat.reduceAdd, Nat.reduceMul, Int.toNat_natCast, hnth, hHn]
     repeat (first | (refine And.intro ?_ ?_; · first | (simp; omega)) | refine peel ?_)
     refine hK _ _ _ ?_; clear hK K
     refine awp_reg zs [1, 3, 9, 10, 11, 66] fun K hK => ?_
     try simp only [go_sem, ↓reduceIte, Nat.reduceEqDiff, Nat.reduceLT, Nat.reduceSub, Nat.reduceAdd, Nat.reduceMul, Int.toNat_natCast, hnth]
     repeat (first | (refine And.intro ?_ ?_; · first | (simp; omega) | (intro _; simp; omega)) | refine peel ?_)
     refine hK _ _ _ ?_; clear hK K
     refine awp_cnd (fun hb => ?_) (fun hb => ?_)
     ·skip
      have hs : rTopS s clock m t x = x.ts := by unfold rTopS; rw [if_pos hv, if_pos (by simp only [cond_and] at hb; exact hb)]
      refine awp_reg1 zs [1, 3, 9, 10, 11] fun K hK => ?_
      try simp only [go_sem, ↓reduceIte, Nat.reduceEqDiff, Nat.reduceLT, Nat.reduceSub, Nat.reduceAdd, Nat.reduceMul, Int.toNat_natCast, hnth]
      repeat (first | (refine And.intro ?_ ?_; · first | (simp; omega)) | refine peel ?_)
      refine hK _ _ _ ?_; clear hK K
      try simp only [go_sem, ↓reduceIte, Nat.reduceEqDiff, Nat.reduceLT, Nat.reduceSub, Nat.reduceAdd, Nat.reduceMul]
      refine hK4 _ _ _ ?_
      first | clear hK4 K4 | skip
      refine awp_reg1 zs [1, 3, 9, 10, 11] fun K hK => ?_
      try simp only [go_sem, ↓reduceIte, Nat.reduceEqDiff, Nat.reduceLT, Nat.reduceSub, Nat.reduceAdd, Nat.reduceMul]
      repeat refine peel ?_
      refine hK _ _ _ ?_; clear hK K
      try simp only [go_sem, ↓reduceIte, Nat.reduceEqDiff, Nat.reduceLT, Nat.reduceSub, Nat.reduceAdd, Nat.reduceMul]
      rw [hs] at hd
      exact ⟨⟨i + 1, _, by omega, by rw [w1 (by omega)], by omega, hHn, hrest, hd⟩, by rw [w1 (by omega)]; simp; omega⟩
     ·skip
      have hs : rTopS s clock m t x = t := by unfold rTopS; rw [if_pos hv, if_neg (by simp only [cond_and] at hb; exact Bool.eq_false_iff.1 hb)]
      refine awp_skip ?_
      try simp only [go_sem, ↓reduceIte, Nat.reduceEqDiff, Nat.reduceLT, Nat.reduceSub, Nat.reduceAdd, Nat.reduceMul]
      refine hK4 _ _ _ ?_
      first | clear hK4 K4 | skip
      refine awp_reg1 zs [1, 3, 9, 10, 11] fun K hK => ?_
      try simp only [go_sem, ↓reduceIte, Nat.reduceEqDiff, Nat.reduceLT, Nat.reduceSub, Nat.reduceAdd, Nat.reduceMul]
      repeat refine peel ?_
      refine hK _ _ _ ?_; clear hK K
      try simp only [go_sem, ↓reduceIte, Nat.reduceEqDiff, Nat.reduceLT, Nat.reduceSub, Nat.reduceAdd, Nat.reduceMul]
      rw [hs] at hd
      exact ⟨⟨i + 1, _, by omega, by rw [w1 (by omega)], by omega, hHn, hrest, hd⟩, by rw [w1 (by omega)]; simp; omega⟩
   ·skip
    have hge : i = m.length := by simp at hb; omega
    rw [hge, List.drop_length, List.foldl_nil] at hd
    refine awp_exit ?_
    try simp only [go_sem, ↓reduceIte, Nat.reduceEqDiff, Nat.reduceLT, Nat.reduceSub, Nat.reduceAdd, Nat.reduceMul]
    refine hK2 _ _ _ ?_
    first | clear hK2 K2 | skip
    refine awp_rq zs [6, 7] ?_
    refine awp_ret ?_
    try simp only [go_sem, ↓reduceIte, Nat.reduceEqDiff, Nat.reduceLT, Nat.reduceSub, Nat.reduceAdd, Nat.reduceMul]
    rw [hq]
    first
    | (refine ⟨_, rfl, ?_, Frz.kl ⟨trivial, trivial, trivial⟩⟩
       intro k hk; have h0 : k ≠ n := by omega
       simp [Heap.put, h0]; done)
    | exact ⟨_, rfl, hrest, .tup (.cons (by rw [← hd]; exact .kl trivial) (.cons (.kl trivial) .nil))⟩
end Go.Proofs.YtijhkfhflpmajaaGreat

