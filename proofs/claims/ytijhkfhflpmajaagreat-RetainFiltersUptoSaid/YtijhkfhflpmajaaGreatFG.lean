/- Own layer: the walks through the small functions of the laws. Of the program; no condition. -/
import Derived.Test.YtijhkfhflpmajaaGreatFF
import Derived.Test.YtijhkfhflpmajaaGreatFE
import Derived.Test.YtijhkfhflpmajaaGreatFC
import Derived.Test.YtijhkfhflpmajaaGreatFM
import Derived.Test.YtijhkfhflpmajaaGreatFB
set_option linter.unusedSimpArgs false
set_option linter.unusedVariables false
namespace Go.Proofs.YtijhkfhflpmajaaGreat
open Go Go.Sx Go.Rt Go.Proofs
theorem c_law_num (e : Int) (H : Heap) (n : Nat) : Ret Tryz.prog 16 [.int .i64 e] H n (.int .i64 e) H n := by
  refine acalls_of_awp Tryz.func16 rfl Tryz.ntmps16 (congrArg Array.toList Tryz.results16) (by simp) ?_
  simp only [go_sem]
  refine awp_rq zs [0] ?_
  refine awp_rq zs [2] ?_
  refine awp_ret ?_
  try simp only [go_sem, seval]
theorem c_ref3_Alike (a b : List UInt8) (H : Heap) (n : Nat) : Ret Tryz.prog 60 [bys a, bys b] H n (.bool (a == b)) H n := by
  refine acalls_of_awp Tryz.func60 rfl Tryz.ntmps60 (congrArg Array.toList Tryz.results60) (by simp) ?_
  simp only [go_sem]
  refine awp_rq zs [0, 1] ?_
  refine awp_reg zs [4] fun K hK => ?_
  try simp only [go_sem, seval, map_byteOf]
  repeat (first | (refine And.intro ?_ ?_; · first | exact bys_isByte _) | refine peel ?_)
  refine hK _ _ _ ?_; clear hK K
  refine awp_ret ?_
  try simp only [go_sem, seval]
theorem c_ref3_Same (a b : Ent) (H : Heap) (n : Nat) : Ret Tryz.prog 32 [entAV a, entAV b] H n (.bool (sameE a b)) H n := by
  refine Ret.fin ?_
  refine acalls_of_awp Tryz.func32 rfl Tryz.ntmps32 (congrArg Array.toList Tryz.results32) (by simp) ?_
  simp only [go_sem]
  refine awp_rq zs [2, 3] ?_
  refine awp_seq_k fun K1 hK1 => ?_
  refine awp_rq zs [2, 3, 30] ?_
  refine awp_cnd (fun hb => ?_) (fun hb => ?_)
  ·skip
   refine awp_rq zs [4] ?_
   refine awp_ret ?_
   try simp only [go_sem, seval]
   refine ⟨_, rfl, ?_, Frz.eq ?_ trivial⟩
   · intro k hk; have h0 : k ≠ n := by omega
     have h1 : ∀ j, k ≠ n + j := fun j => by omega
     simp [Heap.put, h0, h1]
   rw [sameE_eq]; simp only [bne] at hb; congr 1
   generalize (a.fam == b.fam) = p1 at *
   generalize (a.ts == b.ts) = p2 at *
   generalize (a.seq == b.seq) = p3 at *
   generalize (a.kind == b.kind) = p4 at *
   generalize (a.row == b.row) = p5 at *
   generalize (a.qual == b.qual) = p6 at *
   generalize (a.value == b.value) = p7 at *
   revert hb; revert p1 p2 p3 p4 p5 p6 p7; decide
  ·skip
   refine awp_skip ?_
   try simp only [go_sem, seval]
   refine hK1 _ _ _ ?_
   first | clear hK1 K1 | skip
   refine awp_reg zs [4] fun K hK => ?_
   try simp only [go_sem, seval]
   refine callK_use Tryz.func60 rfl rfl rfl ((c_ref3_Alike a.row b.row _ _)) ?_
   try simp only [go_sem, seval]
   refine callG_use Tryz.func60 rfl rfl rfl (fun _ => (c_ref3_Alike a.qual b.qual _ _)) ?_
   try simp only [go_sem, seval]
   repeat refine peel ?_
   refine callG_use Tryz.func60 rfl rfl rfl (fun _ => (c_ref3_Alike a.value b.value _ _)) ?_
   try simp only [go_sem, seval]
   repeat refine peel ?_
   refine hK _ _ _ ?_; clear hK K
   refine awp_ret ?_
   try simp only [go_sem, seval]
   refine ⟨_, rfl, ?_, Frz.eq ?_ trivial⟩
   · intro k hk; have h0 : k ≠ n := by omega
     have h1 : ∀ j, k ≠ n + j := fun j => by omega
     simp [Heap.put, h0, h1]
   rw [sameE_eq]; simp only [bne] at hb; congr 1
   generalize (a.fam == b.fam) = p1 at *
   generalize (a.ts == b.ts) = p2 at *
   generalize (a.seq == b.seq) = p3 at *
   generalize (a.kind == b.kind) = p4 at *
   generalize (a.row == b.row) = p5 at *
   generalize (a.qual == b.qual) = p6 at *
   generalize (a.value == b.value) = p7 at *
   revert hb; revert p1 p2 p3 p4 p5 p6 p7; decide
theorem c_ref3_SameAll (a b : List Ent) (hl : a.length < 4611686018427387904) (H : Heap) (n : Nat) : Ret Tryz.prog 17 [entsAV a, entsAV b] H n (.bool (decide (a = b))) H n := by
  refine acalls_of_awp Tryz.func17 rfl Tryz.ntmps17 (congrArg Array.toList Tryz.results17) (by simp) ?_
  simp only [go_sem]
  refine awp_rq zs [0, 1] ?_
  refine awp_seq_k fun K1 hK1 => ?_
  refine awp_rq zs [0, 1, 11] ?_
  refine awp_cnd (fun hb => ?_) (fun hb => ?_)
  ·skip
   have hne : a.length ≠ b.length := by simp at hb; exact fun h => hb (by rw [h])
   refine awp_rq zs [4] ?_
   refine awp_ret ?_
   try simp only [go_sem, seval]
   first
   | (have h9 : ¬ a = b := fun h => hne (by rw [h])
      simp [h9])
   | (rw [← hd]; simp [hxy])
   | (rw [← hd, hge, hel]; simp [← hel])
  ·skip
   have hel : a.length = b.length := by simp at hb; exact Int.ofNat_inj.1 hb
   refine awp_skip ?_
   try simp only [go_sem, seval]
   refine hK1 _ _ _ ?_
   first | clear hK1 K1 | skip
   refine awp_seq_k fun K2 hK2 => ?_
   refine awp_rq zs [0, 1, 5] ?_
   refine awp_block ?_
   refine awp_loop (fun T' H' n' => ∃ i : Nat, i ≤ a.length ∧ T' = tl [(0, .sl 7 (a.map entAV)), (1, .sl 7 (b.map entAV)), (5, .int .i64 i)] ∧ H' = H ∧ n' = n ∧ (decide (a.drop i = b.drop i)) = decide (a = b)) (fun T' _ _ => a.length - iv (T' 5)) ?_ ?_
   ·skip
    exact ⟨0, Nat.zero_le _, rfl, rfl, rfl, rfl⟩
   intro T1 H1 n1
   rintro ⟨i, hi, rfl, rfl, rfl, hd⟩
   refine awp_seq_k fun K3 hK3 => ?_
   refine awp_rq zs [0, 1, 5, 15] ?_
   refine awp_cnd (fun hb => ?_) (fun hb => ?_)
   ·skip
    have hlt : i < a.length := by simpa using hb
    have hlb : i < b.length := by omega
    rw [drop_cons a i hlt, drop_cons b i hlb] at hd
    have hn1 : nth (a.map entAV) i = entAV (a.getD i default) := nth_map entAV a i hlt
    have hn2 : nth (b.map entAV) i = entAV (b.getD i default) := nth_map entAV b i hlb
    generalize a.getD i default = x at *
    generalize b.getD i default = y at *
    refine awp_skip ?_
    try simp only [go_sem, seval]
    refine hK3 _ _ _ ?_
    first | clear hK3 K3 | skip
    refine awp_seq_k fun K4 hK4 => ?_
    refine awp_block ?_
    refine awp_drw rfl zs [0, 1, 5, 6] [.m, .m, .q, .q, .m, .m, .q, .q, .c, .q] (by kernel_rfl) (fun _ _ _ _ _ h => h) fun K hK => ?_
    try simp only [go_sem, seval, Int.toNat_natCast, hn1, hn2]
    repeat refine peel ?_
    refine callQG_use Tryz.func32 rfl rfl rfl (fun _ n => (c_ref3_Same x y _ _)) ?_
    try simp only [go_sem, seval]
    refine hK _ _ _ ?_; clear hK K
    refine awp_rq zs [0, 1, 5, 28] ?_
    refine awp_cnd (fun hb => ?_) (fun hb => ?_)
    ·skip
     have hxy : x ≠ y := by simpa [sameE] using hb
     refine awp_rq zs [4] ?_
     refine awp_ret ?_
     try simp only [go_sem, seval]
     first
     | (have h9 : ¬ a = b := fun h => hne (by rw [h])
        simp [h9])
     | (rw [← hd]; simp [hxy])
     | (rw [← hd, hge, hel]; simp [← hel])
    ·skip
     have hxy : x = y := by simpa [sameE] using hb
     refine awp_skip ?_
     try simp only [go_sem, seval]
     refine hK4 _ _ _ ?_
     first | clear hK4 K4 | skip
     refine awp_reg1 zs [0, 1, 5] fun K hK => ?_
     try simp only [go_sem, seval]
     refine hK _ _ _ ?_; clear hK K
     try simp only [go_sem, seval]
     refine ⟨⟨i + 1, by omega, by rw [w1 (by omega)], by rw [← hd, hxy]; simp⟩, by rw [w1 (by omega)]; simp; omega⟩
   ·skip
    have hge : i = a.length := by simp at hb; omega
    refine awp_exit ?_
    try simp only [go_sem, seval]
    refine hK2 _ _ _ ?_
    first | clear hK2 K2 | skip
    refine awp_rq zs [4] ?_
    refine awp_ret ?_
    try simp only [go_sem, seval]
    first
    | (have h9 : ¬ a = b := fun h => hne (by rw [h])
       simp [h9])
    | (rw [← hd]; simp [hxy])
    | (rw [← hd, hge, hel]; simp [← hel])
theorem c_ref3_Copied (b : List UInt8) (hb : b.length ≤ 140737488355328) (H : Heap) (n : Nat) : Ret Tryz.prog 61 [bys b] H n (bys b) H n := by
  refine acalls_of_awp Tryz.func61 rfl Tryz.ntmps61 (congrArg Array.toList Tryz.results61) (by simp) ?_
  simp only [go_sem]
  refine awp_rq zs [0] ?_
  refine awp_rq zs [0, 3] ?_
  refine awp_reg zs [2] fun K hK => ?_
  try simp only [go_sem, seval]
  repeat (first | (refine And.intro ?_ ?_; · first | (simp; omega) | exact ⟨.inr trivial, by simp; omega, by simp; omega⟩) | refine peel ?_)
  refine hK _ _ _ ?_; clear hK K
  refine awp_ret ?_
  try simp only [go_sem, seval]
theorem c_ref3_Clone (e : Ent) (he : e.fits) (H : Heap) (n : Nat) : Ret Tryz.prog 34 [entAV e] H n (entAV e) H n := by
  obtain ⟨h1, h2, h3⟩ := he
  refine Ret.fin ?_
  refine acalls_of_awp Tryz.func34 rfl Tryz.ntmps34 (congrArg Array.toList Tryz.results34) (by simp) ?_
  simp only [go_sem]
  refine awp_rq zs [1, 2] ?_
  refine awp_reg zs [1, 2] fun K hK => ?_
  try simp only [go_sem, seval]
  refine callK_use Tryz.func61 rfl rfl rfl ((c_ref3_Copied e.row h1 _ _)) ?_
  try simp only [go_sem, seval]
  refine hK _ _ _ ?_; clear hK K
  refine awp_reg zs [1, 2] fun K hK => ?_
  try simp only [go_sem, seval]
  refine callK_use Tryz.func61 rfl rfl rfl ((c_ref3_Copied e.qual h2 _ _)) ?_
  try simp only [go_sem, seval]
  refine hK _ _ _ ?_; clear hK K
  refine awp_reg zs [1, 2] fun K hK => ?_
  try simp only [go_sem, seval]
  refine callK_use Tryz.func61 rfl rfl rfl ((c_ref3_Copied e.value h3 _ _)) ?_
  try simp only [go_sem, seval]
  refine hK _ _ _ ?_; clear hK K
  refine awp_rq zs [2] ?_
  refine awp_ret ?_
  try simp only [go_sem, seval]
  refine ⟨_, rfl, ?_, Frz.eq rfl (kl_ent e n)⟩
  intro k hk; have h0 : k ≠ n := by omega
  have h1 : ∀ j, k ≠ n + j := fun j => by omega
  simp [Heap.put, h0, h1]
end Go.Proofs.YtijhkfhflpmajaaGreat
namespace Go.Proofs.YtijhkfhflpmajaaGreat
open Go Go.Sx Go.Rt Go.Proofs
theorem l_ref3_Copied (p : Lp) (b : List UInt8) (hb : b.length ≤ 140737488355328) (H : Heap) (n : Nat) (hp : p.here H b) : Ret Tryz.prog 61 [p.av b.length] H n (bys b) H n := by
  obtain ⟨hat, hlen, htk⟩ := hp
  refine acalls_of_awp Tryz.func61 rfl Tryz.ntmps61 (congrArg Array.toList Tryz.results61) (by simp) ?_
  simp only [go_sem]
  refine awp_rq zs [0] ?_
  refine awp_rq zs [0, 3] ?_
  refine awp_reg zs [2] fun K hK => ?_
  try simp only [go_sem, seval, hat, List.drop_zero, htk]
  repeat (first | (refine And.intro ?_ ?_; · first | (simp; omega) | exact ⟨rfl, by omega⟩ | exact ⟨⟨rfl, by omega⟩, .inr rfl, by simp; omega, by simp; omega⟩) | refine peel ?_)
  refine hK _ _ _ ?_; clear hK K
  refine awp_ret ?_
  try simp only [go_sem, seval]
theorem l_ref3_Clone (x : LEnt) (he : x.e.fits) (H : Heap) (n : Nat) (hx : x.ok H n) : Ret Tryz.prog 34 [lentAV x] H n (entAV x.e) H n := by
  obtain ⟨h1, h2, h3⟩ := he
  have zr : x.r.k ≠ n := by have := hx.r.lt; omega
  have zr9 : ∀ j, x.r.k ≠ n + j := fun j => by have := hx.r.lt; omega
  have zq : x.q.k ≠ n := by have := hx.q.lt; omega
  have zq9 : ∀ j, x.q.k ≠ n + j := fun j => by have := hx.q.lt; omega
  have zv : x.v.k ≠ n := by have := hx.v.lt; omega
  have zv9 : ∀ j, x.v.k ≠ n + j := fun j => by have := hx.v.lt; omega
  refine Ret.fin ?_
  refine acalls_of_awp Tryz.func34 rfl Tryz.ntmps34 (congrArg Array.toList Tryz.results34) (by simp) ?_
  simp only [go_sem]
  refine awp_rq zs [1, 2] ?_
  refine awp_reg zs [1, 2] fun K hK => ?_
  try simp only [go_sem, seval]
  refine callK_use Tryz.func61 rfl rfl rfl ((l_ref3_Copied x.r x.e.row h1 _ _ (hx.r.tohere.mono (by simp [Heap.put, zr, zr9])))) ?_
  try simp only [go_sem, seval]
  refine hK _ _ _ ?_; clear hK K
  refine awp_reg zs [1, 2] fun K hK => ?_
  try simp only [go_sem, seval]
  refine callK_use Tryz.func61 rfl rfl rfl ((l_ref3_Copied x.q x.e.qual h2 _ _ (hx.q.tohere.mono (by simp [Heap.put, zq, zq9])))) ?_
  try simp only [go_sem, seval]
  refine hK _ _ _ ?_; clear hK K
  refine awp_reg zs [1, 2] fun K hK => ?_
  try simp only [go_sem, seval]
  refine callK_use Tryz.func61 rfl rfl rfl ((l_ref3_Copied x.v x.e.value h3 _ _ (hx.v.tohere.mono (by simp [Heap.put, zv, zv9])))) ?_
  try simp only [go_sem, seval]
  refine hK _ _ _ ?_; clear hK K
  refine awp_rq zs [2] ?_
  refine awp_ret ?_
  try simp only [go_sem, seval]
  refine ⟨_, rfl, ?_, Frz.eq rfl (kl_ent x.e n)⟩
  intro k hk; have h0 : k ≠ n := by omega
  have h1 : ∀ j, k ≠ n + j := fun j => by omega
  simp [Heap.put, h0, h1]
theorem l_ref3_CloneAll (p : Lp) (l : List LEnt) (hl : l.length ≤ 1000000000) (hf : ∀ x ∈ l, x.e.fits) (H : Heap) (n : Nat) (hL : LList H n p l) : Ret Tryz.prog 13 [p.av l.length] H n (entsAV (l.map (·.e))) H n := by
  have hlt9 := hL.lt
  refine Ret.fin ?_
  refine acalls_of_awp Tryz.func13 rfl Tryz.ntmps13 (congrArg Array.toList Tryz.results13) (by simp) ?_
  simp only [go_sem]
  refine awp_rq zs [0] ?_
  refine awp_rq zs [0, 3] ?_
  refine awp_seq_k fun K1 hK1 => ?_
  refine awp_adopt_tmp 3 7 rfl ?_
  refine awp_rq zs [0, 3, 4] ?_
  refine awp_block ?_
  refine awp_loop (fun T' H' n' => ∃ i : Nat, i ≤ l.length ∧ T' = tl [(0, .osl p.k p.ver 0 l.length), (3, .osl n i 0 i), (4, .int .i64 i)] ∧ H' = H.put n (some (.arr i 7 (((l.map (·.e)).take i).map entAV))) ∧ n' = n + 1) (fun T' _ _ => l.length - iv (T' 4)) ?_ ?_
  ·skip
   exact ⟨0, Nat.zero_le _, rfl, rfl, rfl⟩
  intro T1 H1 n1
  rintro ⟨i, hi, rfl, rfl, rfl⟩
  refine awp_seq_k fun K2 hK2 => ?_
  refine awp_rq zs [0, 3, 4, 8] ?_
  refine awp_cnd (fun hb => ?_) (fun hb => ?_)
  ·skip
   have hlt : i < l.length := by simpa using hb
   have hnth : nth p.els i = lentAV (l.getD i default) := hL.nth hlt
   have hii : i < p.els.length := by have := hL.len; omega
   have hmem : l.getD i default ∈ l := by simp [List.getD, List.getElem?_eq_getElem hlt]
   have htk : (l.map (·.e)).take (i + 1) = (l.map (·.e)).take i ++ [(l.getD i default).e] := by rw [List.take_add_one]; simp [List.getD, List.getElem?_eq_getElem hlt]
   generalize l.getD i default = x at *
   have hxo := hL.ok x hmem
   have hpk : (H.put n (some (.arr i 7 (((l.map (·.e)).take i).map entAV)))) p.k = some (.arr p.ver 7 p.els) := (Heap.put_ne _ _ (by omega)).trans hL.at'
   have r1 : (p.k = n) = False := by simp; omega
   have r2 : (n = p.k) = False := by simp; omega
   have hat9 := hL.at'
   have hmin : min i l.length = i := by omega
   refine awp_skip ?_
   try simp only [go_sem, seval]
   refine hK2 _ _ _ ?_
   first | clear hK2 K2 | skip
   refine awp_seq_k fun K3 hK3 => ?_
   refine awp_block ?_
   refine awp_reg1 zs [0, 3, 4] fun K hK => ?_
   try simp only [go_sem, seval, Int.toNat_natCast, hnth, hat9, r1]
   repeat (first | (refine And.intro ?_ ?_; · first | exact hii | exact ⟨rfl, hii, by simp, trivial, trivial, rfl⟩ | exact ⟨rfl, by simp [AV.sz, AV.szs, AV.memOK]⟩ | (simp; omega)) | refine peel ?_)
   refine callK_use Tryz.func34 rfl rfl rfl ((l_ref3_Clone x (hf x hmem) _ _ (hxo.mono (fun k hk => Heap.put_ne _ _ (by omega)) (by omega)))) ?_
   try simp only [go_sem, seval]
   repeat (first | (refine And.intro ?_ ?_; · first | exact hii | exact ⟨rfl, hii, by simp, trivial, trivial, rfl⟩ | exact ⟨rfl, by simp [AV.sz, AV.szs, AV.memOK]⟩ | (simp; omega)) | refine peel ?_)
   refine hK _ _ _ ?_; clear hK K
   try simp only [go_sem, seval]
   refine hK3 _ _ _ ?_
   first | clear hK3 K3 | skip
   refine awp_reg1 zs [0, 3, 4] fun K hK => ?_
   try simp only [go_sem, seval]
   refine hK _ _ _ ?_; clear hK K
   try simp only [go_sem, seval]
   refine ⟨⟨i + 1, by omega, by rw [w1 (by omega)], ?_⟩, by rw [w1 (by omega)]; simp; omega⟩
   rw [htk]; simp [List.take_take]; rfl
  ·skip
   have hge : i = l.length := by simp at hb; omega
   refine awp_exit ?_
   try simp only [go_sem, seval]
   refine hK1 _ _ _ ?_
   first | clear hK1 K1 | skip
   refine awp_rq zs [2] ?_
   refine awp_ret ?_
   try simp only [go_sem, seval]
   refine ⟨_, rfl, fun k hk => Heap.put_ne _ _ (by omega), .osl (Heap.put_same _ _ _) (Nat.le_refl _) (by simp; omega) ?_⟩
   rw [hge, List.drop_zero, List.take_of_length_le (l := l.map (·.e)) (by simp), List.take_of_length_le (by simp)]; exact FrzL.kls _ (kls_ents _ _)
end Go.Proofs.YtijhkfhflpmajaaGreat
namespace Go.Proofs.YtijhkfhflpmajaaGreat
open Go Go.Sx Go.Rt Go.Proofs
def oneE (kind ts seq : Int) : Ent := ⟨[114], 0, if kind = 5 then [] else [113], ts, seq, kind, if kind = 1 then [118] else []⟩
theorem c_law_one (kind ts seq : Int) (H : Heap) (n : Nat) : Ret Tryz.prog 30 [.int .i64 kind, .int .i64 ts, .int .i64 seq] H n (entAV (oneE kind ts seq)) H n := by
  refine Ret.fin ?_
  refine acalls_of_awp Tryz.func30 rfl Tryz.ntmps30 (congrArg Array.toList Tryz.results30) (by simp) ?_
  simp only [go_sem]
  refine awp_reg zs [0, 1, 2, 6] fun K hK => ?_
  try simp only [go_sem, seval]
  refine hK _ _ _ ?_; clear hK K
  refine awp_reg zo [0, 6, 7] fun K hK => ?_
  try simp only [go_sem, seval, Nat.add_assoc]
  repeat refine peel ?_
  refine hK _ _ _ ?_; clear hK K
  refine awp_seq_k fun K1 hK1 => ?_
  refine awp_reg zs [0, 6, 7, 17] fun K hK => ?_
  try simp only [go_sem, seval]
  refine hK _ _ _ ?_; clear hK K
  refine awp_cnd (fun hb => ?_) (fun hb => ?_)
  ·skip
   have h1 : kind = 1 := by simpa using hb
   refine awp_reg1 zo [0, 6, 7] fun K hK => ?_
   try simp only [go_sem, seval, Nat.add_assoc]
   repeat refine peel ?_
   refine hK _ _ _ ?_; clear hK K
   try simp only [go_sem, seval]
   refine hK1 _ _ _ ?_
   first | clear hK1 K1 | skip
   refine awp_seq_k fun K2 hK2 => ?_
   refine awp_reg zs [6, 7, 22] fun K hK => ?_
   try simp only [go_sem, seval]
   refine hK _ _ _ ?_; clear hK K
   refine awp_cnd (fun hb => ?_) (fun hb => ?_)
   ·skip
    have h2 : kind = 5 := by simpa using hb
    refine awp_reg1 zs [6, 7] fun K hK => ?_
    try simp only [go_sem, seval]
    refine hK _ _ _ ?_; clear hK K
    try simp only [go_sem, seval]
    refine hK2 _ _ _ ?_
    first | clear hK2 K2 | skip
    refine awp_reg zs [6] fun K hK => ?_
    try simp only [go_sem, seval]
    refine hK _ _ _ ?_; clear hK K
    refine awp_ret ?_
    try simp only [go_sem, seval]
    refine ⟨_, rfl, ?_, ?_⟩
    · intro k hk; have h0 : k ≠ n := by omega
      have h1 : ∀ j, k ≠ n + j := fun j => by omega
      simp [Heap.put, h0, h1]
    · simp only [oneE, h1, h2, if_true, if_false, entAV, Int.reduceEq, Nat.reduceEqDiff]
      refine Frz.agg ?_
      repeat' (first | exact FrzL.nil | refine FrzL.cons ?_ ?_ | exact Frz.nilsl | exact Frz.kl (a := .sl 1 [.int .u8 114]) ⟨trivial, trivial⟩ | exact Frz.kl (a := .sl 1 [.int .u8 113]) ⟨trivial, trivial⟩ | exact Frz.kl (a := .sl 1 [.int .u8 118]) ⟨trivial, trivial⟩ | exact Frz.kl trivial | (exfalso; omega))
   ·skip
    have h2 : kind ≠ 5 := by simpa using hb
    refine awp_skip ?_
    try simp only [go_sem, seval]
    refine hK2 _ _ _ ?_
    first | clear hK2 K2 | skip
    refine awp_reg zs [6] fun K hK => ?_
    try simp only [go_sem, seval]
    refine hK _ _ _ ?_; clear hK K
    refine awp_ret ?_
    try simp only [go_sem, seval]
    refine ⟨_, rfl, ?_, ?_⟩
    · intro k hk; have h0 : k ≠ n := by omega
      have h1 : ∀ j, k ≠ n + j := fun j => by omega
      simp [Heap.put, h0, h1]
    · simp only [oneE, h1, h2, if_true, if_false, entAV, Int.reduceEq, Nat.reduceEqDiff]
      refine Frz.agg ?_
      repeat' (first | exact FrzL.nil | refine FrzL.cons ?_ ?_ | exact Frz.nilsl | exact Frz.kl (a := .sl 1 [.int .u8 114]) ⟨trivial, trivial⟩ | exact Frz.kl (a := .sl 1 [.int .u8 113]) ⟨trivial, trivial⟩ | exact Frz.kl (a := .sl 1 [.int .u8 118]) ⟨trivial, trivial⟩ | exact Frz.kl trivial | (exfalso; omega))
  ·skip
   have h1 : kind ≠ 1 := by simpa using hb
   refine awp_skip ?_
   try simp only [go_sem, seval]
   refine hK1 _ _ _ ?_
   first | clear hK1 K1 | skip
   refine awp_seq_k fun K3 hK3 => ?_
   refine awp_reg zs [6, 7, 22] fun K hK => ?_
   try simp only [go_sem, seval]
   refine hK _ _ _ ?_; clear hK K
   refine awp_cnd (fun hb => ?_) (fun hb => ?_)
   ·skip
    have h2 : kind = 5 := by simpa using hb
    refine awp_reg1 zs [6, 7] fun K hK => ?_
    try simp only [go_sem, seval]
    refine hK _ _ _ ?_; clear hK K
    try simp only [go_sem, seval]
    refine hK3 _ _ _ ?_
    first | clear hK3 K3 | skip
    refine awp_reg zs [6] fun K hK => ?_
    try simp only [go_sem, seval]
    refine hK _ _ _ ?_; clear hK K
    refine awp_ret ?_
    try simp only [go_sem, seval]
    refine ⟨_, rfl, ?_, ?_⟩
    · intro k hk; have h0 : k ≠ n := by omega
      have h1 : ∀ j, k ≠ n + j := fun j => by omega
      simp [Heap.put, h0, h1]
    · simp only [oneE, h1, h2, if_true, if_false, entAV, Int.reduceEq, Nat.reduceEqDiff]
      refine Frz.agg ?_
      repeat' (first | exact FrzL.nil | refine FrzL.cons ?_ ?_ | exact Frz.nilsl | exact Frz.kl (a := .sl 1 [.int .u8 114]) ⟨trivial, trivial⟩ | exact Frz.kl (a := .sl 1 [.int .u8 113]) ⟨trivial, trivial⟩ | exact Frz.kl (a := .sl 1 [.int .u8 118]) ⟨trivial, trivial⟩ | exact Frz.kl trivial | (exfalso; omega))
   ·skip
    have h2 : kind ≠ 5 := by simpa using hb
    refine awp_skip ?_
    try simp only [go_sem, seval]
    refine hK3 _ _ _ ?_
    first | clear hK3 K3 | skip
    refine awp_reg zs [6] fun K hK => ?_
    try simp only [go_sem, seval]
    refine hK _ _ _ ?_; clear hK K
    refine awp_ret ?_
    try simp only [go_sem, seval]
    refine ⟨_, rfl, ?_, ?_⟩
    · intro k hk; have h0 : k ≠ n := by omega
      have h1 : ∀ j, k ≠ n + j := fun j => by omega
      simp [Heap.put, h0, h1]
    · simp only [oneE, h1, h2, if_true, if_false, entAV, Int.reduceEq, Nat.reduceEqDiff]
      refine Frz.agg ?_
      repeat' (first | exact FrzL.nil | refine FrzL.cons ?_ ?_ | exact Frz.nilsl | exact Frz.kl (a := .sl 1 [.int .u8 114]) ⟨trivial, trivial⟩ | exact Frz.kl (a := .sl 1 [.int .u8 113]) ⟨trivial, trivial⟩ | exact Frz.kl (a := .sl 1 [.int .u8 118]) ⟨trivial, trivial⟩ | exact Frz.kl trivial | (exfalso; omega))
def familyE (max ttl : Int) : List Fml := [⟨[102], max, ttl⟩]
theorem c_law_family (max ttl : Int) (H : Heap) (n : Nat) : Ret Tryz.prog 31 [.int .i64 max, .int .i64 ttl] H n (schAV (familyE max ttl)) H n := by
  refine Ret.fin ?_
  refine acalls_of_awp Tryz.func31 rfl Tryz.ntmps31 (congrArg Array.toList Tryz.results31) (by simp) ?_
  simp only [go_sem]
  refine awp_rq zs [0, 1, 4] ?_
  refine awp_reg zs [4] fun K hK => ?_
  try simp only [go_sem, seval]
  repeat (first | (refine And.intro ?_ ?_; · first | exact ⟨rfl, by simp [AV.sz, AV.szs, AV.memOK]⟩) | refine peel ?_)
  refine hK _ _ _ ?_; clear hK K
  refine awp_ret ?_
  try simp only [go_sem, seval]
  refine ⟨_, rfl, ?_, Frz.kl (show AV.kl n (schAV (familyE max ttl)) from kl_sch _ _)⟩
  · intro k hk; have h0 : k ≠ n := by omega
    simp [Heap.put, h0]
def l0 : List Ent := [oneE 1 5 3, oneE 1 9 1, oneE 3 7 4, oneE 1 7 2]
theorem vis0 : visE (familyE 2 10) 12 l0 = ([oneE 1 9 1], 0) := by decide +kernel
theorem squash0 : squashE (familyE 2 10) 12 false 0 l0 = ([oneE 1 9 1, oneE 2 7 4], 0) := by decide +kernel
theorem read0 : readE (familyE 2 10) 12 12 1 l0 = ([oneE 1 9 1], 0) := by decide +kernel
theorem top0 : topE (familyE 2 10) 12 l0 = (9, 0) := by decide +kernel
set_option maxHeartbeats 1600000 in
theorem c_law_started (H : Heap) (n : Nat) : Ret Tryz.prog 11 [] H n (.bool true) H n := by
  refine acalls_of_awp Tryz.func11 rfl Tryz.ntmps11 (congrArg Array.toList Tryz.results11) (by simp) ?_
  simp only [go_sem]
  refine awp_reg zs [] fun K hK => ?_
  try simp only [go_sem, seval]
  refine hK _ _ _ ?_; clear hK K
  refine awp_reg zs [1] fun K hK => ?_
  try simp only [go_sem, seval]
  repeat (first | (refine And.intro ?_ ?_; · first | exact ⟨rfl, by simp [AV.sz, AV.szs, AV.memOK]⟩) | refine peel ?_)
  refine callK_use Tryz.func30 rfl rfl rfl ((c_law_one 1 5 3 _ _)) ?_
  try simp only [go_sem, seval]
  repeat (first | (refine And.intro ?_ ?_; · first | exact ⟨rfl, by simp [AV.sz, AV.szs, AV.memOK]⟩) | refine peel ?_)
  refine callK_use Tryz.func30 rfl rfl rfl ((c_law_one 1 9 1 _ _)) ?_
  try simp only [go_sem, seval]
  repeat (first | (refine And.intro ?_ ?_; · first | exact ⟨rfl, by simp [AV.sz, AV.szs, AV.memOK]⟩) | refine peel ?_)
  refine callK_use Tryz.func30 rfl rfl rfl ((c_law_one 3 7 4 _ _)) ?_
  try simp only [go_sem, seval]
  repeat (first | (refine And.intro ?_ ?_; · first | exact ⟨rfl, by simp [AV.sz, AV.szs, AV.memOK]⟩) | refine peel ?_)
  refine callK_use Tryz.func30 rfl rfl rfl ((c_law_one 1 7 2 _ _)) ?_
  try simp only [go_sem, seval]
  repeat (first | (refine And.intro ?_ ?_; · first | exact ⟨rfl, by simp [AV.sz, AV.szs, AV.memOK]⟩) | refine peel ?_)
  refine hK _ _ _ ?_; clear hK K
  refine awp_reg zs [1, 2, 3] fun K hK => ?_
  try simp only [go_sem, seval]
  refine callK_use Tryz.func31 rfl rfl rfl ((c_law_family 2 10 _ _)) ?_
  try simp only [go_sem, seval]
  refine callK_use Tryz.func18 rfl rfl rfl ((c_retain_Vis (familyE 2 10) 12 l0 (by decide) _ _)) ?_
  try simp only [go_sem, seval, vis0]
  refine hK _ _ _ ?_; clear hK K
  refine awp_reg zs [1, 2, 3, 4, 5] fun K hK => ?_
  try simp only [go_sem, seval]
  refine callK_use Tryz.func31 rfl rfl rfl ((c_law_family 2 10 _ _)) ?_
  try simp only [go_sem, seval]
  refine callK_use Tryz.func22 rfl rfl rfl ((c_retain_Squash (familyE 2 10) 12 0 false l0 (by decide) _ _)) ?_
  try simp only [go_sem, seval, squash0]
  refine hK _ _ _ ?_; clear hK K
  refine awp_reg zs [1, 2, 3, 4, 5, 6, 7] fun K hK => ?_
  try simp only [go_sem, seval]
  refine callK_use Tryz.func31 rfl rfl rfl ((c_law_family 2 10 _ _)) ?_
  try simp only [go_sem, seval]
  refine callK_use Tryz.func20 rfl rfl rfl ((c_retain_Read (familyE 2 10) 12 12 1 l0 (by decide) _ _)) ?_
  try simp only [go_sem, seval, read0]
  refine hK _ _ _ ?_; clear hK K
  refine awp_reg zs [2, 3, 4, 5, 6, 7, 8, 9] fun K hK => ?_
  try simp only [go_sem, seval]
  refine callK_use Tryz.func31 rfl rfl rfl ((c_law_family 2 10 _ _)) ?_
  try simp only [go_sem, seval]
  refine callK_use Tryz.func24 rfl rfl rfl ((c_retain_Top (familyE 2 10) 12 l0 (by decide) _ _)) ?_
  try simp only [go_sem, seval, top0]
  refine hK _ _ _ ?_; clear hK K
  refine awp_seq_k fun K1 hK1 => ?_
  refine awp_reg zs [2, 4, 6, 75] fun K hK => ?_
  try simp only [go_sem, seval]
  refine callK_use Tryz.func16 rfl rfl rfl ((by apply c_law_num <;> first | assumption | omega)) ?_
  try simp only [go_sem, seval]
  refine callG_use Tryz.func16 rfl rfl rfl (fun _ => (by apply c_law_num <;> first | assumption | omega)) ?_
  try simp only [go_sem, seval]
  repeat refine peel ?_
  refine callG_use Tryz.func16 rfl rfl rfl (fun _ => (by apply c_law_num <;> first | assumption | omega)) ?_
  try simp only [go_sem, seval]
  repeat refine peel ?_
  refine callG_use Tryz.func16 rfl rfl rfl (fun _ => (by apply c_law_num <;> first | assumption | omega)) ?_
  try simp only [go_sem, seval]
  repeat refine peel ?_
  refine hK _ _ _ ?_; clear hK K
  refine awp_cnd (fun hb => ?_) (fun hb => ?_)
  ·skip
   refine awp_reg zs [0] fun K hK => ?_
   try simp only [go_sem, seval]
   refine hK _ _ _ ?_; clear hK K
   refine awp_ret ?_
   try simp only [go_sem, seval]
   first | (simp [sameE]; done) | exact absurd hb (by decide)
  ·skip
   refine awp_skip ?_
   try simp only [go_sem, seval]
   refine hK1 _ _ _ ?_
   first | clear hK1 K1 | skip
   refine awp_drw rfl zs [0] [.m, .q, .q, .c, .c, .m, .m, .q, .q, .c, .c, .q, .m, .m, .q, .q, .c, .c, .q, .m, .m, .q, .q, .c, .c, .q, .q] (by kernel_rfl) (fun _ _ _ _ _ h => h) fun K hK => ?_
   try simp only [go_sem, seval]
   refine callQG_use Tryz.func30 rfl rfl rfl (fun _ n => (by apply c_law_one <;> first | assumption | omega)) ?_
   try simp only [go_sem, seval]
   refine callQG_use Tryz.func32 rfl rfl rfl (fun _ n => (by apply c_ref3_Same <;> first | assumption | omega)) ?_
   try simp only [go_sem, seval]
   refine callQG_use Tryz.func30 rfl rfl rfl (fun _ n => (by apply c_law_one <;> first | assumption | omega)) ?_
   try simp only [go_sem, seval]
   refine callQG_use Tryz.func32 rfl rfl rfl (fun _ n => (by apply c_ref3_Same <;> first | assumption | omega)) ?_
   try simp only [go_sem, seval]
   repeat refine peel ?_
   refine callQG_use Tryz.func30 rfl rfl rfl (fun _ n => (by apply c_law_one <;> first | assumption | omega)) ?_
   try simp only [go_sem, seval]
   refine callQG_use Tryz.func32 rfl rfl rfl (fun _ n => (by apply c_ref3_Same <;> first | assumption | omega)) ?_
   try simp only [go_sem, seval]
   repeat refine peel ?_
   refine callQG_use Tryz.func30 rfl rfl rfl (fun _ n => (by apply c_law_one <;> first | assumption | omega)) ?_
   try simp only [go_sem, seval]
   refine callQG_use Tryz.func32 rfl rfl rfl (fun _ n => (by apply c_ref3_Same <;> first | assumption | omega)) ?_
   try simp only [go_sem, seval]
   repeat refine peel ?_
   refine hK _ _ _ ?_; clear hK K
   refine awp_ret ?_
   try simp only [go_sem, seval]
   first | (simp [sameE]; done) | exact absurd hb (by decide)
theorem cond_and (a b : Bool) : (bif a then b else false) = (a && b) := by cases a <;> rfl
end Go.Proofs.YtijhkfhflpmajaaGreat
namespace Go.Proofs.YtijhkfhflpmajaaGreat
open Go Go.Sx Go.Rt Go.Proofs
theorem l_retain_copies (p : Lp) (b : List UInt8) (hb : b.length ≤ 140737488355328) (H : Heap) (n : Nat) (hp : p.here H b) : Ret Tryz.prog 98 [p.av b.length] H n (bys b) H n := by
  obtain ⟨hat, hlen, htk⟩ := hp
  refine acalls_of_awp Tryz.func98 rfl Tryz.ntmps98 (congrArg Array.toList Tryz.results98) (by simp) ?_
  simp only [go_sem]
  refine awp_rq zs [0] ?_
  refine awp_reg zs [2] fun K hK => ?_
  try simp only [go_sem, seval, hat, List.drop_zero, htk]
  repeat (first | (refine And.intro ?_ ?_; · first | (simp; omega) | exact ⟨rfl, by omega⟩ | exact ⟨⟨rfl, by omega⟩, .inr rfl, by simp; omega, by simp; omega⟩) | refine peel ?_)
  refine hK _ _ _ ?_; clear hK K
  refine awp_ret ?_
  try simp only [go_sem, seval]
theorem l_retain_copied (x : LEnt) (he : x.e.fits) (H : Heap) (n : Nat) (hx : x.ok H n) : Ret Tryz.prog 64 [lentAV x] H n (entAV x.e) H n := by
  obtain ⟨h1, h2, h3⟩ := he
  have zr : x.r.k ≠ n := by have := hx.r.lt; omega
  have zr9 : ∀ j, x.r.k ≠ n + j := fun j => by have := hx.r.lt; omega
  have zq : x.q.k ≠ n := by have := hx.q.lt; omega
  have zq9 : ∀ j, x.q.k ≠ n + j := fun j => by have := hx.q.lt; omega
  have zv : x.v.k ≠ n := by have := hx.v.lt; omega
  have zv9 : ∀ j, x.v.k ≠ n + j := fun j => by have := hx.v.lt; omega
  refine Ret.fin ?_
  refine acalls_of_awp Tryz.func64 rfl Tryz.ntmps64 (congrArg Array.toList Tryz.results64) (by simp) ?_
  simp only [go_sem]
  refine awp_rq zs [1, 2] ?_
  refine awp_drw rfl zs [1, 2] [.q, .q, .c, .q, .q, .c, .q, .q, .c, .q, .w [], .q, .w [], .q, .w []] (by kernel_rfl) (fun _ _ _ _ _ h => h) fun K hK => ?_
  try simp only [go_sem, seval]
  refine callQG_use Tryz.func98 rfl rfl rfl (fun _ n => (l_retain_copies x.r x.e.row h1 _ _ (hx.r.tohere.mono (by simp [Heap.put, zr, zr9])))) ?_
  try simp only [go_sem, seval]
  refine callQG_use Tryz.func98 rfl rfl rfl (fun _ n => (l_retain_copies x.q x.e.qual h2 _ _ (hx.q.tohere.mono (by simp [Heap.put, zq, zq9])))) ?_
  try simp only [go_sem, seval]
  refine callQG_use Tryz.func98 rfl rfl rfl (fun _ n => (l_retain_copies x.v x.e.value h3 _ _ (hx.v.tohere.mono (by simp [Heap.put, zv, zv9])))) ?_
  try simp only [go_sem, seval]
  refine hK _ _ _ ?_; clear hK K
  refine awp_rq zs [2] ?_
  refine awp_ret ?_
  try simp only [go_sem, seval]
  refine ⟨_, rfl, ?_, Frz.eq rfl (kl_ent x.e n)⟩
  intro k hk; have h0 : k ≠ n := by omega
  have h1 : ∀ j, k ≠ n + j := fun j => by omega
  simp [Heap.put, h0, h1]
end Go.Proofs.YtijhkfhflpmajaaGreat
namespace Go.Proofs.YtijhkfhflpmajaaGreat
open Go Go.Sx Go.Rt Go.Proofs
theorem c_ref2_out (x lo hi : Int) (H : Heap) (n : Nat) : Ret Tryz.prog 101 [.int .i64 x, .int .i64 lo, .int .i64 hi] H n (.bool (bout x lo hi)) H n := by
  refine acalls_of_awp Tryz.func101 rfl Tryz.ntmps101 (congrArg Array.toList Tryz.results101) (by simp) ?_
  simp only [go_sem]
  refine awp_rq zs [0, 1, 2] ?_
  refine awp_rq zs [6] ?_
  refine awp_ret ?_
  try simp only [go_sem, seval]
  unfold bout; by_cases h : x < lo <;> simp [h]
theorem c_ref2_number (x y : Int) (H : Heap) (n : Nat) : Ret Tryz.prog 103 [.int .i64 x, .int .i64 y] H n (.int .i64 (cmpI x y)) H n := by
  refine acalls_of_awp Tryz.func103 rfl Tryz.ntmps103 (congrArg Array.toList Tryz.results103) (by simp) ?_
  simp only [go_sem]
  refine awp_rq zs [0, 1] ?_
  refine awp_seq_k fun K1 hK1 => ?_
  refine awp_rq zs [0, 1, 7] ?_
  refine awp_cnd (fun hb => ?_) (fun hb => ?_)
  ·skip
   refine awp_rq zs [4] ?_
   refine awp_ret ?_
   try simp only [go_sem, seval]
   simp only [decide_eq_true_eq, decide_eq_false_iff_not] at *; simp [cmpI, *]
  ·skip
   refine awp_skip ?_
   try simp only [go_sem, seval]
   refine hK1 _ _ _ ?_
   first | clear hK1 K1 | skip
   refine awp_seq_k fun K2 hK2 => ?_
   refine awp_rq zs [10] ?_
   refine awp_cnd (fun hb => ?_) (fun hb => ?_)
   ·skip
    refine awp_rq zs [4] ?_
    refine awp_ret ?_
    try simp only [go_sem, seval]
    simp only [decide_eq_true_eq, decide_eq_false_iff_not] at *; simp [cmpI, *]
   ·skip
    refine awp_skip ?_
    try simp only [go_sem, seval]
    refine hK2 _ _ _ ?_
    first | clear hK2 K2 | skip
    refine awp_rq zs [4] ?_
    refine awp_ret ?_
    try simp only [go_sem, seval]
    simp only [decide_eq_true_eq, decide_eq_false_iff_not] at *; simp [cmpI, *]
theorem c_ref2_first (a b : Bool) (H : Heap) (n : Nat) : Ret Tryz.prog 104 [.bool a, .bool b] H n (.int .i64 (if a = b then 0 else if a = true then -1 else 1)) H n := by
  refine acalls_of_awp Tryz.func104 rfl Tryz.ntmps104 (congrArg Array.toList Tryz.results104) (by simp) ?_
  simp only [go_sem]
  refine awp_rq zs [0, 1] ?_
  refine awp_seq_k fun K1 hK1 => ?_
  refine awp_rq zs [0, 7] ?_
  refine awp_cnd (fun hb => ?_) (fun hb => ?_)
  ·skip
   refine awp_rq zs [4] ?_
   refine awp_ret ?_
   try simp only [go_sem, seval]
   revert hb; cases a <;> cases b <;> simp_all
  ·skip
   refine awp_skip ?_
   try simp only [go_sem, seval]
   refine hK1 _ _ _ ?_
   first | clear hK1 K1 | skip
   refine awp_seq_k fun K2 hK2 => ?_
   refine awp_rq zs [8] ?_
   refine awp_cnd (fun hb => ?_) (fun hb => ?_)
   ·skip
    refine awp_rq zs [4] ?_
    refine awp_ret ?_
    try simp only [go_sem, seval]
    revert hb; cases a <;> cases b <;> simp_all
   ·skip
    refine awp_skip ?_
    try simp only [go_sem, seval]
    refine hK2 _ _ _ ?_
    first | clear hK2 K2 | skip
    refine awp_rq zs [4] ?_
    refine awp_ret ?_
    try simp only [go_sem, seval]
    revert hb; cases a <;> cases b <;> simp_all
theorem cb_nil_l (b : List UInt8) : Lib.compareBytes [] b = cmpI 0 b.length := by
  cases b with
  | nil => rfl
  | cons x l => simp [Lib.compareBytes, cmpI]; try omega
theorem cb_nil_r (a : List UInt8) : Lib.compareBytes a [] = cmpI a.length 0 := by
  cases a with
  | nil => rfl
  | cons x l => simp [Lib.compareBytes, cmpI]; try omega
theorem c_ref2_Bytes (a b : List UInt8) (hl : a.length < 4611686018427387904) (H : Heap) (n : Nat) : Ret Tryz.prog 102 [bys a, bys b] H n (.int .i64 (Lib.compareBytes a b)) H n := by
  refine acalls_of_awp Tryz.func102 rfl Tryz.ntmps102 (congrArg Array.toList Tryz.results102) (by simp) ?_
  simp only [go_sem]
  refine awp_rq zs [0, 1] ?_
  refine awp_seq_k fun K1 hK1 => ?_
  refine awp_rq zs [0, 1, 5] ?_
  refine awp_block ?_
  refine awp_loop (fun T' H' n' => ∃ i : Nat, i ≤ a.length ∧ i ≤ b.length ∧ T' = tl [(0, .sl 1 (a.map byteAV)), (1, .sl 1 (b.map byteAV)), (5, .int .i64 i)] ∧ H' = H ∧ n' = n ∧ Lib.compareBytes (a.drop i) (b.drop i) = Lib.compareBytes a b) (fun T' _ _ => a.length - iv (T' 5)) ?_ ?_
  ·skip
   exact ⟨0, Nat.zero_le _, Nat.zero_le _, rfl, rfl, rfl, rfl⟩
  intro T1 H1 n1
  rintro ⟨i, hi, hi2, rfl, rfl, rfl, hd⟩
  refine awp_seq_k fun K2 hK2 => ?_
  refine awp_reg zs [0, 1, 5, 15] fun K hK => ?_
  try simp only [go_sem, seval, List.length_map]
  repeat refine peel ?_
  refine hK _ _ _ ?_; clear hK K
  refine awp_cnd (fun hb => ?_) (fun hb => ?_)
  ·skip
   try simp only [List.length_map] at hb
   have hlt : i < a.length := by by_cases h : i < a.length; exact h; simp [h] at hb
   have hlb : i < b.length := by by_cases h : i < b.length; exact h; simp [hlt, h] at hb
   rw [drop_cons a i hlt, drop_cons b i hlb, cb_cons] at hd
   have hn1 : nth (a.map byteAV) i = byteAV (a.getD i default) := nth_map byteAV a i hlt
   have hn2 : nth (b.map byteAV) i = byteAV (b.getD i default) := nth_map byteAV b i hlb
   generalize a.getD i default = x at *
   generalize b.getD i default = y at *
   refine awp_skip ?_
   try simp only [go_sem, seval]
   refine hK2 _ _ _ ?_
   first | clear hK2 K2 | skip
   refine awp_seq_k fun K3 hK3 => ?_
   refine awp_block ?_
   refine awp_seq_k fun K4 hK4 => ?_
   refine awp_drw rfl zs [0, 1, 5, 26] [.m, .m, .q, .q, .m, .m, .q, .q, .q] (by kernel_rfl) (fun _ _ _ _ _ h => h) fun K hK => ?_
   try simp only [go_sem, seval, Int.toNat_natCast, hn1, hn2]
   repeat refine peel ?_
   refine hK _ _ _ ?_; clear hK K
   refine awp_cnd (fun hb => ?_) (fun hb => ?_)
   ·skip
    have hxy : x < y := by simpa [UInt8.lt_iff_toNat_lt] using hb
    have hend : (-1 : Int) = Lib.compareBytes a b := by rw [← hd, if_pos hxy]
    refine awp_rq zs [4] ?_
    refine awp_ret ?_
    try simp only [go_sem, seval]
    rw [hend]
   ·skip
    have hxy : ¬ x < y := by simpa [UInt8.lt_iff_toNat_lt] using hb
    refine awp_skip ?_
    try simp only [go_sem, seval]
    refine hK4 _ _ _ ?_
    first | clear hK4 K4 | skip
    refine awp_drw rfl zs [0, 1, 5, 35] [.m, .m, .q, .q, .m, .m, .q, .q, .q] (by kernel_rfl) (fun _ _ _ _ _ h => h) fun K hK => ?_
    try simp only [go_sem, seval, Int.toNat_natCast, hn1, hn2]
    repeat refine peel ?_
    refine hK _ _ _ ?_; clear hK K
    refine awp_cnd (fun hb => ?_) (fun hb => ?_)
    ·skip
     have hyx : y < x := by simpa [UInt8.lt_iff_toNat_lt] using hb
     have hend : (1 : Int) = Lib.compareBytes a b := by rw [← hd, if_neg hxy, if_pos hyx]
     refine awp_rq zs [4] ?_
     refine awp_ret ?_
     try simp only [go_sem, seval]
     rw [hend]
    ·skip
     have hyx : ¬ y < x := by simpa [UInt8.lt_iff_toNat_lt] using hb
     rw [if_neg hxy, if_neg hyx] at hd
     refine awp_skip ?_
     try simp only [go_sem, seval]
     refine hK3 _ _ _ ?_
     first | clear hK3 K3 | skip
     refine awp_reg1 zs [0, 1, 5] fun K hK => ?_
     try simp only [go_sem, seval]
     refine hK _ _ _ ?_; clear hK K
     try simp only [go_sem, seval]
     refine ⟨⟨i + 1, by omega, by omega, by rw [w1 (by omega)], hd⟩, by rw [w1 (by omega)]; simp; omega⟩
  ·skip
   try simp only [List.length_map] at hb
   have hend : cmpI a.length b.length = Lib.compareBytes a b := by
     have : i = a.length ∨ i = b.length := by
       by_cases h : i < a.length
       · right; by_cases h2 : i < b.length
         · simp [h, h2] at hb
         · omega
       · left; omega
     rw [← hd]
     rcases this with h | h
     · rw [h, List.drop_length, cb_nil_l, List.length_drop]; unfold cmpI; split <;> split <;> (try split) <;> omega
     · rw [h, List.drop_length, cb_nil_r, List.length_drop]; unfold cmpI; split <;> split <;> (try split) <;> omega
   refine awp_exit ?_
   try simp only [go_sem, seval]
   refine hK1 _ _ _ ?_
   first | clear hK1 K1 | skip
   refine awp_reg zs [4] fun K hK => ?_
   try simp only [go_sem, seval, List.length_map]
   refine callK_use Tryz.func103 rfl rfl rfl ((c_ref2_number a.length b.length _ _)) ?_
   try simp only [go_sem, seval]
   refine hK _ _ _ ?_; clear hK K
   refine awp_ret ?_
   try simp only [go_sem, seval]
   rw [hend]
theorem c_ref2_Check (e : Ent) (H : Heap) (n : Nat) : Ret Tryz.prog 67 [entAV e] H n (.int .i64 (checkE e)) H n := by
  refine Ret.fin ?_
  refine acalls_of_awp Tryz.func67 rfl Tryz.ntmps67 (congrArg Array.toList Tryz.results67) (by simp) ?_
  simp only [go_sem]
  refine awp_rq zs [1] ?_
  refine awp_seq_k fun K1 hK1 => ?_
  refine awp_block ?_
  refine awp_reg zs [1, 3] fun K hK => ?_
  try simp only [go_sem, seval]
  refine callK_use Tryz.func101 rfl rfl rfl ((by apply c_ref2_out <;> first | assumption | omega)) ?_
  try simp only [go_sem, seval]
  refine hK _ _ _ ?_; clear hK K
  refine awp_cnd (fun hb => ?_) (fun hb => ?_)
  ·skip
   refine awp_rq zs [2] ?_
   refine awp_ret ?_
   try simp only [go_sem, seval]
   refine ⟨_, rfl, ?_, Frz.eq ?_ trivial⟩
   · intro k hk; have h0 : k ≠ n := by omega
     have h1 : ∀ j, k ≠ n + j := fun j => by omega
     simp [Heap.put, h0, h1]
   simp only [List.length_map] at *
   simp only [checkE, badQ, badV, *, ↓reduceIte, Bool.false_eq_true]
  ·skip
   refine awp_reg zs [1, 8] fun K hK => ?_
   try simp only [go_sem, seval]
   refine callK_use Tryz.func101 rfl rfl rfl ((by apply c_ref2_out <;> first | assumption | omega)) ?_
   try simp only [go_sem, seval]
   refine hK _ _ _ ?_; clear hK K
   refine awp_cnd (fun hb => ?_) (fun hb => ?_)
   ·skip
    refine awp_rq zs [2] ?_
    refine awp_ret ?_
    try simp only [go_sem, seval]
    refine ⟨_, rfl, ?_, Frz.eq ?_ trivial⟩
    · intro k hk; have h0 : k ≠ n := by omega
      have h1 : ∀ j, k ≠ n + j := fun j => by omega
      simp [Heap.put, h0, h1]
    simp only [List.length_map] at *
    simp only [checkE, badQ, badV, *, ↓reduceIte, Bool.false_eq_true]
   ·skip
    refine awp_rq zs [1, 12] ?_
    refine awp_cnd (fun hb => ?_) (fun hb => ?_)
    ·skip
     refine awp_rq zs [2] ?_
     refine awp_ret ?_
     try simp only [go_sem, seval]
     refine ⟨_, rfl, ?_, Frz.eq ?_ trivial⟩
     · intro k hk; have h0 : k ≠ n := by omega
       have h1 : ∀ j, k ≠ n + j := fun j => by omega
       simp [Heap.put, h0, h1]
     simp only [List.length_map] at *
     simp only [checkE, badQ, badV, *, ↓reduceIte, Bool.false_eq_true]
    ·skip
     refine awp_reg zs [1, 28] fun K hK => ?_
     try simp only [go_sem, seval]
     refine callK_use Tryz.func101 rfl rfl rfl ((by apply c_ref2_out <;> first | assumption | omega)) ?_
     try simp only [go_sem, seval]
     refine hK _ _ _ ?_; clear hK K
     refine awp_cnd (fun hb => ?_) (fun hb => ?_)
     ·skip
      refine awp_rq zs [2] ?_
      refine awp_ret ?_
      try simp only [go_sem, seval]
      refine ⟨_, rfl, ?_, Frz.eq ?_ trivial⟩
      · intro k hk; have h0 : k ≠ n := by omega
        have h1 : ∀ j, k ≠ n + j := fun j => by omega
        simp [Heap.put, h0, h1]
      simp only [List.length_map] at *
      simp only [checkE, badQ, badV, *, ↓reduceIte, Bool.false_eq_true]
     ·skip
      refine awp_reg zs [1, 32] fun K hK => ?_
      try simp only [go_sem, seval]
      refine callK_use Tryz.func101 rfl rfl rfl ((by apply c_ref2_out <;> first | assumption | omega)) ?_
      try simp only [go_sem, seval]
      refine hK _ _ _ ?_; clear hK K
      refine awp_cnd (fun hb => ?_) (fun hb => ?_)
      ·skip
       refine awp_rq zs [2] ?_
       refine awp_ret ?_
       try simp only [go_sem, seval]
       refine ⟨_, rfl, ?_, Frz.eq ?_ trivial⟩
       · intro k hk; have h0 : k ≠ n := by omega
         have h1 : ∀ j, k ≠ n + j := fun j => by omega
         simp [Heap.put, h0, h1]
       simp only [List.length_map] at *
       simp only [checkE, badQ, badV, *, ↓reduceIte, Bool.false_eq_true]
      ·skip
       refine awp_reg zs [1, 36] fun K hK => ?_
       try simp only [go_sem, seval]
       refine callK_use Tryz.func101 rfl rfl rfl ((by apply c_ref2_out <;> first | assumption | omega)) ?_
       try simp only [go_sem, seval]
       refine hK _ _ _ ?_; clear hK K
       refine awp_cnd (fun hb => ?_) (fun hb => ?_)
       ·skip
        refine awp_rq zs [2] ?_
        refine awp_ret ?_
        try simp only [go_sem, seval]
        refine ⟨_, rfl, ?_, Frz.eq ?_ trivial⟩
        · intro k hk; have h0 : k ≠ n := by omega
          have h1 : ∀ j, k ≠ n + j := fun j => by omega
          simp [Heap.put, h0, h1]
        simp only [List.length_map] at *
        simp only [checkE, badQ, badV, *, ↓reduceIte, Bool.false_eq_true]
       ·skip
        refine awp_rq zs [40] ?_
        refine awp_cnd (fun hb => ?_) (fun hb => ?_)
        ·skip
         refine awp_rq zs [2] ?_
         refine awp_ret ?_
         try simp only [go_sem, seval]
         refine ⟨_, rfl, ?_, Frz.eq ?_ trivial⟩
         · intro k hk; have h0 : k ≠ n := by omega
           have h1 : ∀ j, k ≠ n + j := fun j => by omega
           simp [Heap.put, h0, h1]
         simp only [List.length_map] at *
         simp only [checkE, badQ, badV, *, ↓reduceIte, Bool.false_eq_true]
        ·skip
         refine awp_skip ?_
         try simp only [go_sem, seval]
         refine hK1 _ _ _ ?_
         first | clear hK1 K1 | skip
         refine awp_rq zs [2] ?_
         refine awp_ret ?_
         try simp only [go_sem, seval]
         refine ⟨_, rfl, ?_, Frz.eq ?_ trivial⟩
         · intro k hk; have h0 : k ≠ n := by omega
           have h1 : ∀ j, k ≠ n + j := fun j => by omega
           simp [Heap.put, h0, h1]
         simp only [List.length_map] at *
         simp only [checkE, badQ, badV, *, ↓reduceIte, Bool.false_eq_true]
def fnz : List Int → Int
  | [] => 0
  | x :: l => if x ≠ 0 then x else fnz l
theorem fnz_comp (a b : Ent) : fnz [Lib.compareBytes a.row b.row, cmpI a.fam b.fam, (if (a.kind == 5) = (b.kind == 5) then 0 else if (a.kind == 5) = true then -1 else 1), Lib.compareBytes a.qual b.qual, (if (a.kind == 4) = (b.kind == 4) then 0 else if (a.kind == 4) = true then -1 else 1), cmpI b.ts a.ts, cmpI b.seq a.seq, cmpI a.kind b.kind] = compE a b := by
  have h : ∀ (k : Int), (if (a.kind == k) = (b.kind == k) then (0 : Int) else if (a.kind == k) = true then -1 else 1) = firstI k a b := by
    intro k
    unfold firstI
    generalize a.kind = x
    generalize b.kind = y
    by_cases h1 : x = k
    · subst h1
      by_cases h2 : y = x
      · subst h2; simp
      · have h3 : (y == x) = false := by simpa using h2
        simp [h2, h3]
    · have h4 : (x == k) = false := by simpa using h1
      by_cases h2 : y = k
      · subst h2; simp [h1, h4]
      · have h3 : (y == k) = false := by simpa using h2
        simp [h1, h2, h3, h4]
  rw [h 5, h 4]
  simp [fnz, compE, compFrom, stepE]
theorem c_ref2_Compare (a b : Ent) (ha : a.fits) (H : Heap) (n : Nat) : Ret Tryz.prog 68 [entAV a, entAV b] H n (.int .i64 (compE a b)) H n := by
  obtain ⟨f1, f2, f3⟩ := ha
  refine Ret.fin ?_
  refine acalls_of_awp Tryz.func68 rfl Tryz.ntmps68 (congrArg Array.toList Tryz.results68) (by simp) ?_
  simp only [go_sem]
  refine awp_rq zs [2, 3] ?_
  refine awp_drw rfl zs [5] [.q, .q, .q, .q, .c, .q, .q, .q, .q, .c, .q, .q, .q, .q, .q, .q, .c, .q, .q, .q, .q, .c, .q, .q, .q, .q, .q, .q, .c, .q, .q, .q, .q, .c, .q, .q, .q, .q, .c, .q, .q, .q, .q, .c, .q, .q] (by kernel_rfl) (fun _ _ _ _ _ h => h) fun K hK => ?_
  try simp only [go_sem, seval]
  repeat (first | (refine And.intro ?_ ?_; · first | exact ⟨rfl, by simp [AV.sz, AV.memOK]⟩) | refine peel ?_)
  refine callQG_use Tryz.func102 rfl rfl rfl (fun _ n => (c_ref2_Bytes a.row b.row (by omega) _ _)) ?_
  try simp only [go_sem, seval]
  repeat (first | (refine And.intro ?_ ?_; · first | exact ⟨rfl, by simp [AV.sz, AV.memOK]⟩) | refine peel ?_)
  refine callQG_use Tryz.func103 rfl rfl rfl (fun _ n => (c_ref2_number a.fam b.fam _ _)) ?_
  try simp only [go_sem, seval]
  repeat (first | (refine And.intro ?_ ?_; · first | exact ⟨rfl, by simp [AV.sz, AV.memOK]⟩) | refine peel ?_)
  refine callQG_use Tryz.func104 rfl rfl rfl (fun _ n => (c_ref2_first (a.kind == 5) (b.kind == 5) _ _)) ?_
  try simp only [go_sem, seval]
  repeat (first | (refine And.intro ?_ ?_; · first | exact ⟨rfl, by simp [AV.sz, AV.memOK]⟩) | refine peel ?_)
  refine callQG_use Tryz.func102 rfl rfl rfl (fun _ n => (c_ref2_Bytes a.qual b.qual (by omega) _ _)) ?_
  try simp only [go_sem, seval]
  repeat (first | (refine And.intro ?_ ?_; · first | exact ⟨rfl, by simp [AV.sz, AV.memOK]⟩) | refine peel ?_)
  refine callQG_use Tryz.func104 rfl rfl rfl (fun _ n => (c_ref2_first (a.kind == 4) (b.kind == 4) _ _)) ?_
  try simp only [go_sem, seval]
  repeat (first | (refine And.intro ?_ ?_; · first | exact ⟨rfl, by simp [AV.sz, AV.memOK]⟩) | refine peel ?_)
  refine callQG_use Tryz.func103 rfl rfl rfl (fun _ n => (c_ref2_number b.ts a.ts _ _)) ?_
  try simp only [go_sem, seval]
  repeat (first | (refine And.intro ?_ ?_; · first | exact ⟨rfl, by simp [AV.sz, AV.memOK]⟩) | refine peel ?_)
  refine callQG_use Tryz.func103 rfl rfl rfl (fun _ n => (c_ref2_number b.seq a.seq _ _)) ?_
  try simp only [go_sem, seval]
  repeat (first | (refine And.intro ?_ ?_; · first | exact ⟨rfl, by simp [AV.sz, AV.memOK]⟩) | refine peel ?_)
  refine callQG_use Tryz.func103 rfl rfl rfl (fun _ n => (c_ref2_number a.kind b.kind _ _)) ?_
  try simp only [go_sem, seval]
  repeat (first | (refine And.intro ?_ ?_; · first | exact ⟨rfl, by simp [AV.sz, AV.memOK]⟩) | refine peel ?_)
  refine hK _ _ _ ?_; clear hK K
  refine awp_seq_k fun K1 hK1 => ?_
  have hfz := fnz_comp a b
  generalize Lib.compareBytes a.row b.row = x0 at *
  generalize Lib.compareBytes a.qual b.qual = x3 at *
  generalize cmpI a.fam b.fam = x1 at *
  generalize cmpI b.ts a.ts = x5 at *
  generalize cmpI b.seq a.seq = x6 at *
  generalize cmpI a.kind b.kind = x7 at *
  generalize (if (a.kind == 5) = (b.kind == 5) then (0 : Int) else if (a.kind == 5) = true then -1 else 1) = x2 at *
  generalize (if (a.kind == 4) = (b.kind == 4) then (0 : Int) else if (a.kind == 4) = true then -1 else 1) = x4 at *
  refine awp_rq zs [5, 6] ?_
  refine awp_block ?_
  refine awp_loop (fun T' H' n' => ∃ i : Nat, i ≤ 8 ∧ T' = tl [(5, .sl 1 ([x0, x1, x2, x3, x4, x5, x6, x7].map fun x => .int .i64 x)), (6, .int .i64 i)] ∧ (∀ k, k < n → H' k = H k) ∧ n ≤ n' ∧ fnz ([x0, x1, x2, x3, x4, x5, x6, x7].drop i) = compE a b) (fun T' _ _ => 8 - iv (T' 6)) ?_ ?_
  ·skip
   refine ⟨0, by decide, rfl, ?_, by omega, hfz⟩
   intro k hk; have h0 : k ≠ n := by omega
   have h1 : ∀ j, k ≠ n + j := fun j => by omega
   simp [Heap.put, h0, h1]
  intro T1 H1 n1
  rintro ⟨i, hi, rfl, hrest, hn, hd⟩
  refine awp_seq_k fun K2 hK2 => ?_
  refine awp_rq zs [5, 6, 55] ?_
  refine awp_cnd (fun hb => ?_) (fun hb => ?_)
  ·skip
   have hlt : i < [x0, x1, x2, x3, x4, x5, x6, x7].length := by simp at hb ⊢; omega
   rw [drop_cons _ i hlt, fnz] at hd
   have hnth : nth [.int .i64 x0, .int .i64 x1, .int .i64 x2, .int .i64 x3, .int .i64 x4, .int .i64 x5, .int .i64 x6, .int .i64 x7] i = .int .i64 ([x0, x1, x2, x3, x4, x5, x6, x7].getD i default) := nth_map (fun x => AV.int .i64 x) _ i hlt
   simp only [List.length_cons, List.length_nil] at hlt
   refine awp_skip ?_
   try simp only [go_sem, seval]
   refine hK2 _ _ _ ?_
   first | clear hK2 K2 | skip
   refine awp_seq_k fun K3 hK3 => ?_
   refine awp_block ?_
   refine awp_reg zs [5, 6, 62] fun K hK => ?_
   try simp only [go_sem, seval, Int.toNat_natCast, hnth]
   repeat (first | (refine And.intro ?_ ?_; · first | (simp; omega)) | refine peel ?_)
   refine hK _ _ _ ?_; clear hK K
   refine awp_cnd (fun hb => ?_) (fun hb => ?_)
   ·skip
    have hne : [x0, x1, x2, x3, x4, x5, x6, x7].getD i default ≠ 0 := by simpa using hb
    rw [if_pos hne] at hd
    refine awp_reg zs [4] fun K hK => ?_
    try simp only [go_sem, seval, Int.toNat_natCast, hnth]
    repeat (first | (refine And.intro ?_ ?_; · first | (simp; omega)) | refine peel ?_)
    refine hK _ _ _ ?_; clear hK K
    refine awp_ret ?_
    try simp only [go_sem, seval]
    exact ⟨_, rfl, hrest, Frz.eq (by rw [← hd]) trivial⟩
   ·skip
    have hne : ¬ [x0, x1, x2, x3, x4, x5, x6, x7].getD i default ≠ 0 := by simpa using hb
    rw [if_neg hne] at hd
    refine awp_skip ?_
    try simp only [go_sem, seval]
    refine hK3 _ _ _ ?_
    first | clear hK3 K3 | skip
    refine awp_reg1 zs [5, 6] fun K hK => ?_
    try simp only [go_sem, seval]
    refine hK _ _ _ ?_; clear hK K
    try simp only [go_sem, seval]
    exact ⟨⟨i + 1, by omega, by rw [w1 (by omega)], hrest, hn, hd⟩, by rw [w1 (by omega)]; simp; omega⟩
  ·skip
   have hge : i = 8 := by simp at hb; omega
   rw [hge] at hd
   simp only [List.drop_succ_cons, List.drop_zero, fnz] at hd
   refine awp_exit ?_
   try simp only [go_sem, seval]
   refine hK1 _ _ _ ?_
   first | clear hK1 K1 | skip
   refine awp_rq zs [4] ?_
   refine awp_ret ?_
   try simp only [go_sem, seval]
   exact ⟨_, rfl, hrest, Frz.eq (by rw [← hd]) trivial⟩
theorem c_ref2_name (s : List UInt8) (H : Heap) (n : Nat) : Ret Tryz.prog 105 [.str s] H n (.bool (namedB s)) H n := by
  refine acalls_of_awp Tryz.func105 rfl Tryz.ntmps105 (congrArg Array.toList Tryz.results105) (by simp) ?_
  simp only [go_sem]
  refine awp_rq zs [0] ?_
  refine awp_seq_k fun K1 hK1 => ?_
  refine awp_reg zs [0, 8] fun K hK => ?_
  try simp only [go_sem, seval]
  refine callK_use Tryz.func101 rfl rfl rfl ((by apply c_ref2_out <;> first | assumption | omega)) ?_
  refine hK _ _ _ ?_; clear hK K
  refine awp_cnd (fun hb => ?_) (fun hb => ?_)
  ·skip
   have hend : namedB s = false := by unfold namedB; rw [hb]; rfl
   refine awp_rq zs [2] ?_
   refine awp_ret ?_
   try simp only [go_sem, seval]
   rw [hend]
  ·skip
   have hlen := bout_false hb
   have hb8 : bout s.length 1 32 = false := hb
   refine awp_skip ?_
   try simp only [go_sem, seval]
   refine hK1 _ _ _ ?_
   first | clear hK1 K1 | skip
   refine awp_seq_k fun K2 hK2 => ?_
   refine awp_rq zs [0, 3] ?_
   refine awp_block ?_
   refine awp_loop (fun T' H' n' => ∃ i : Nat, i ≤ s.length ∧ T' = tl [(0, .str s), (3, .int .i64 i)] ∧ H' = H ∧ n' = n ∧ (s.drop i).all nameB = s.all nameB ∧ (0 < i → letterB (s.getD 0 0) = true)) (fun T' _ _ => s.length - iv (T' 3)) ?_ ?_
   ·skip
    exact ⟨0, Nat.zero_le _, rfl, rfl, rfl, by simp, fun h => absurd h (by decide)⟩
   intro T1 H1 n1
   rintro ⟨i, hi, rfl, rfl, rfl, hall, hl0⟩
   refine awp_seq_k fun K3 hK3 => ?_
   refine awp_rq zs [0, 3, 12] ?_
   refine awp_cnd (fun hb => ?_) (fun hb => ?_)
   ·skip
    have hlt : i < s.length := by simpa using hb
    rw [drop_cons s i hlt, List.all_cons] at hall
    have hg0 : i = 0 → s.getD 0 0 = s.getD i default := fun h => by rw [h]; rfl
    refine awp_skip ?_
    try simp only [go_sem, seval]
    refine hK3 _ _ _ ?_
    first | clear hK3 K3 | skip
    refine awp_seq_k fun K4 hK4 => ?_
    refine awp_block ?_
    refine awp_reg zs [0, 3, 4] fun K hK => ?_
    try simp only [go_sem, seval, Int.toNat_natCast]
    repeat refine peel ?_
    refine hK _ _ _ ?_; clear hK K
    generalize hc : s.getD i default = c at *
    have hc0 : s.getD i 0 = c := hc
    refine awp_reg zs [0, 3, 4, 5] fun K hK => ?_
    try simp only [go_sem, seval, hc0]
    repeat refine peel ?_
    refine hK _ _ _ ?_; clear hK K
    have hA : (bif decide (97 ≤ (c.toNat : Int)) then decide ((c.toNat : Int) ≤ 122) else false) = letterB c := by unfold letterB; cases decide (97 ≤ (c.toNat : Int)) <;> rfl
    refine awp_rq zs [0, 3, 41] ?_
    refine awp_cnd (fun hb => ?_) (fun hb => ?_)
    ·skip
     rw [hA] at hb
     have hend : namedB s = false := by
       by_cases h0 : i = 0
       · have h1 : letterB c = false := by cases h9 : letterB c <;> simp_all
         unfold namedB; rw [hg0 h0, h1]; simp
       · have h2 : nameB c = false := by
           unfold nameB
           have h3 : ((i : Int) == 0) = false := by simp; omega
           rw [h3] at hb
           cases h4 : letterB c <;> cases h5 : decide ((c.toNat : Int) < 48) <;> cases h6 : decide (57 < (c.toNat : Int)) <;> cases h7 : ((c.toNat : Int) != 95) <;> simp_all
         rw [h2] at hall
         unfold namedB; rw [← hall]; simp
     refine awp_rq zs [2] ?_
     refine awp_ret ?_
     try simp only [go_sem, seval]
     rw [hend]
    ·skip
     rw [hA] at hb
     have h2 : nameB c = true := by
       unfold nameB
       cases h3 : ((i : Int) == 0) <;> rw [h3] at hb <;> cases h4 : letterB c <;> cases h5 : decide ((c.toNat : Int) < 48) <;> cases h6 : decide (57 < (c.toNat : Int)) <;> cases h7 : ((c.toNat : Int) != 95) <;> simp_all
     have h3 : letterB (s.getD 0 0) = true := by
       by_cases h0 : i = 0
       · rw [hg0 h0]; cases h9 : letterB c <;> simp_all
       · exact hl0 (by omega)
     rw [h2, Bool.true_and] at hall
     refine awp_skip ?_
     try simp only [go_sem, seval]
     refine hK4 _ _ _ ?_
     first | clear hK4 K4 | skip
     refine awp_reg1 zs [0, 3] fun K hK => ?_
     try simp only [go_sem, seval]
     refine hK _ _ _ ?_; clear hK K
     try simp only [go_sem, seval]
     exact ⟨⟨i + 1, by omega, by rw [w1 (by omega)], hall, fun _ => h3⟩, by rw [w1 (by omega)]; simp; omega⟩
   ·skip
    have hge : i = s.length := by simp at hb; omega
    have hend : namedB s = true := by
      unfold namedB
      rw [hb8, hl0 (by omega), ← hall, hge]; simp
    refine awp_exit ?_
    try simp only [go_sem, seval]
    refine hK2 _ _ _ ?_
    first | clear hK2 K2 | skip
    refine awp_rq zs [2] ?_
    refine awp_ret ?_
    try simp only [go_sem, seval]
    rw [hend]
end Go.Proofs.YtijhkfhflpmajaaGreat
namespace Go.Proofs.YtijhkfhflpmajaaGreat
open Go Go.Sx Go.Rt Go.Proofs
theorem cond_or (a b : Bool) : (bif a then true else b) = (a || b) := by cases a <;> rfl
theorem c_ref2_Family (s : List Fml) (name : List UInt8) (hl : s.length ≤ 1048576) (H : Heap) (n : Nat) : Ret Tryz.prog 106 [schAV s, .str name] H n (.int .i64 (famIx s name 0)) H n := by
  refine Ret.fin ?_
  refine acalls_of_awp Tryz.func106 rfl Tryz.ntmps106 (congrArg Array.toList Tryz.results106) (by simp) ?_
  simp only [go_sem]
  refine awp_rq zs [1, 2] ?_
  refine awp_seq_k fun K1 hK1 => ?_
  refine awp_rq zs [1, 2, 5] ?_
  refine awp_block ?_
  refine awp_loop (fun T' H' n' => ∃ i : Nat, i ≤ s.length ∧ T' = tl [(1, .str name), (2, .loc n 0 0 0 []), (5, .int .i64 i)] ∧ H' = H.put n (some (.arr 0 1 [.agg [.sl 3 (s.map famAV)]])) ∧ n' = n + 1 ∧ famIx (s.drop i) name i = famIx s name 0) (fun T' _ _ => s.length - iv (T' 5)) ?_ ?_
  ·skip
   exact ⟨0, Nat.zero_le _, rfl, rfl, rfl, rfl⟩
  intro T1 H1 n1
  rintro ⟨i, hi, rfl, rfl, rfl, hix⟩
  refine awp_seq_k fun K2 hK2 => ?_
  refine awp_rq zs [1, 2, 5, 10] ?_
  refine awp_cnd (fun hb => ?_) (fun hb => ?_)
  ·skip
   have hlt : i < s.length := by simpa using hb
   rw [drop_cons s i hlt, famIx] at hix
   have hnth : nth (s.map famAV) i = famAV (s.getD i default) := nth_map famAV s i hlt
   refine awp_skip ?_
   try simp only [go_sem, seval]
   refine hK2 _ _ _ ?_
   first | clear hK2 K2 | skip
   refine awp_seq_k fun K3 hK3 => ?_
   refine awp_block ?_
   refine awp_reg zs [1, 2, 5, 20] fun K hK => ?_
   try simp only [go_sem, seval, Int.toNat_natCast, hnth]
   repeat refine peel ?_
   refine hK _ _ _ ?_; clear hK K
   refine awp_cnd (fun hb => ?_) (fun hb => ?_)
   ·skip
    have he : (s.getD i default).name = name := by simpa using hb
    rw [if_pos he] at hix
    refine awp_rq zs [4] ?_
    refine awp_ret ?_
    try simp only [go_sem, seval]
    refine ⟨_, rfl, ?_, Frz.eq ?_ trivial⟩
    · intro k hk; have h0 : k ≠ n := by omega
      simp [Heap.put, h0]
    rw [← hix]
   ·skip
    have he : ¬ (s.getD i default).name = name := by simpa using hb
    rw [if_neg he] at hix
    refine awp_skip ?_
    try simp only [go_sem, seval]
    refine hK3 _ _ _ ?_
    first | clear hK3 K3 | skip
    refine awp_reg1 zs [1, 2, 5] fun K hK => ?_
    try simp only [go_sem, seval]
    refine hK _ _ _ ?_; clear hK K
    try simp only [go_sem, seval]
    refine ⟨⟨i + 1, by omega, by rw [w1 (by omega)], hix⟩, by rw [w1 (by omega)]; simp; omega⟩
  ·skip
   have hge : i = s.length := by simp at hb; omega
   have hix : (-1 : Int) = famIx s name 0 := by rw [← hix, hge]; simp [famIx]
   refine awp_exit ?_
   try simp only [go_sem, seval]
   refine hK1 _ _ _ ?_
   first | clear hK1 K1 | skip
   refine awp_rq zs [4] ?_
   refine awp_ret ?_
   try simp only [go_sem, seval]
   refine ⟨_, rfl, ?_, Frz.eq ?_ trivial⟩
   · intro k hk; have h0 : k ≠ n := by omega
     simp [Heap.put, h0]
   rw [← hix]
theorem c_ref2_CheckSchema (s : List Fml) (H : Heap) (n : Nat) : Ret Tryz.prog 69 [schAV s] H n (.int .i64 (schemaE s)) H n := by
  refine Ret.fin ?_
  refine acalls_of_awp Tryz.func69 rfl Tryz.ntmps69 (congrArg Array.toList Tryz.results69) (by simp) ?_
  simp only [go_sem]
  refine awp_rq zs [1] ?_
  refine awp_seq_k fun K1 hK1 => ?_
  refine awp_reg zs [1, 8] fun K hK => ?_
  try simp only [go_sem, seval]
  refine callK_use Tryz.func101 rfl rfl rfl ((by apply c_ref2_out <;> first | assumption | omega)) ?_
  refine hK _ _ _ ?_; clear hK K
  refine awp_cnd (fun hb => ?_) (fun hb => ?_)
  ·skip
   have hres : (28 : Int) = schemaE s := by
     have : bout s.length 1 8 = true := by simpa using hb
     simp [schemaE, this]
   refine awp_rq zs [2] ?_
   refine awp_ret ?_
   try simp only [go_sem, seval]
   refine ⟨_, rfl, ?_, Frz.eq (by rw [hres]) trivial⟩
   intro k hk; have h0 : k ≠ n := by omega
   first | (simp [Heap.put, h0]; done) | exact hH k hk | (have h1 : k ≠ n1 := (by omega); simp [Heap.put, h0, h1, hH k hk])
  ·skip
   have hb8 : bout s.length 1 8 = false := by simpa using hb
   have hlen := bout_false hb8
   refine awp_skip ?_
   try simp only [go_sem, seval]
   refine hK1 _ _ _ ?_
   first | clear hK1 K1 | skip
   refine awp_seq_k fun K2 hK2 => ?_
   refine awp_rq zs [1, 3] ?_
   refine awp_block ?_
   refine awp_loop (fun T' H' n' => ∃ i : Nat, i ≤ s.length ∧ T' = tl [(1, .loc n 0 0 0 []), (3, .int .i64 i)] ∧ n + 1 ≤ n' ∧ H' n = some (.arr 0 1 [.agg [.sl 3 (s.map famAV)]]) ∧ (∀ k, k < n → H' k = H k) ∧ famsBad s (s.drop i) i = famsBad s s 0) (fun T' _ _ => s.length - iv (T' 3)) ?_ ?_
   ·skip
    exact ⟨0, Nat.zero_le _, rfl, by omega, Heap.put_same _ _ _, fun k hk => Heap.put_ne _ _ (by omega), rfl⟩
   intro T1 H1 n1
   rintro ⟨i, hi, rfl, hn, hHn, hH, hix⟩
   refine awp_seq_k fun K3 hK3 => ?_
   refine awp_reg zs [1, 3, 13] fun K hK => ?_
   try simp only [go_sem, seval, hHn]
   refine hK _ _ _ ?_; clear hK K
   refine awp_cnd (fun hb => ?_) (fun hb => ?_)
   ·skip
    have hlt : i < s.length := by simpa using hb
    rw [drop_cons s i hlt, famsBad_cons] at hix
    have hn1 : (n = n1) = False := by simp; omega
    have hnth : nth (s.map famAV) i = famAV (s.getD i default) := nth_map famAV s i hlt
    refine awp_skip ?_
    try simp only [go_sem, seval]
    refine hK3 _ _ _ ?_
    first | clear hK3 K3 | skip
    refine awp_seq_k fun K4 hK4 => ?_
    refine awp_block ?_
    refine awp_reg zs [1, 3, 4] fun K hK => ?_
    try simp only [go_sem, seval, Int.toNat_natCast, hnth, hHn]
    repeat refine peel ?_
    refine hK _ _ _ ?_; clear hK K
    refine awp_reg zs [1, 3, 42] fun K hK => ?_
    try simp only [go_sem, seval, Int.toNat_natCast]
    refine callK_use Tryz.func105 rfl rfl rfl ((c_ref2_name (s.getD i default).name _ _)) ?_
    try simp only [go_sem, seval]
    refine callG_use Tryz.func101 rfl rfl rfl (fun _ => (c_ref2_out (s.getD i default).max 1 16 _ _)) ?_
    try simp only [go_sem, seval]
    repeat refine peel ?_
    refine callG_use Tryz.func101 rfl rfl rfl (fun _ => (c_ref2_out (s.getD i default).ttl 0 1099511627776 _ _)) ?_
    try simp only [go_sem, seval, hn1, hHn]
    repeat refine peel ?_
    refine callG_use Tryz.func106 rfl rfl rfl (fun _ => (c_ref2_Family s (s.getD i default).name (by omega) _ _)) ?_
    try simp only [go_sem, seval]
    repeat refine peel ?_
    refine hK _ _ _ ?_; clear hK K
    refine awp_cnd (fun hb => ?_) (fun hb => ?_)
    ·skip
     have hbad : famBad s (s.getD i default) i = true := by
       simp only [famBad]; cases h1 : namedB (s.getD i default).name <;> cases h2 : bout (s.getD i default).max 1 16 <;> cases h3 : bout (s.getD i default).ttl 0 1099511627776 <;> simp_all
     have hres : (28 : Int) = schemaE s := by rw [hbad] at hix; simp [schemaE, hb8, ← hix]
     refine awp_rq zs [2] ?_
     refine awp_ret ?_
     try simp only [go_sem, seval]
     refine ⟨_, rfl, ?_, Frz.eq (by rw [hres]) trivial⟩
     intro k hk; have h0 : k ≠ n := by omega
     first | (simp [Heap.put, h0]; done) | exact hH k hk | (have h1 : k ≠ n1 := (by omega); simp [Heap.put, h0, h1, hH k hk])
    ·skip
     have hbad : famBad s (s.getD i default) i = false := by
       simp only [famBad]; cases h1 : namedB (s.getD i default).name <;> cases h2 : bout (s.getD i default).max 1 16 <;> cases h3 : bout (s.getD i default).ttl 0 1099511627776 <;> simp_all
     rw [hbad, Bool.false_or] at hix
     refine awp_skip ?_
     try simp only [go_sem, seval]
     refine hK4 _ _ _ ?_
     first | clear hK4 K4 | skip
     refine awp_reg1 zs [1, 3] fun K hK => ?_
     try simp only [go_sem, seval]
     refine hK _ _ _ ?_; clear hK K
     try simp only [go_sem, seval]
     refine ⟨⟨i + 1, by omega, by rw [w1 (by omega)], by omega, ?_, ?_, hix⟩, by rw [w1 (by omega)]; simp; omega⟩
     · simp [hn1, hHn, schAV]
     · intro k hk; have h0 : k ≠ n1 := by omega
       simp [h0, hH k hk]
   ·skip
    have hge : i = s.length := by simp at hb; omega
    have hres : (0 : Int) = schemaE s := by rw [hge] at hix; simp [famsBad] at hix; simp [schemaE, hb8, hix]
    refine awp_exit ?_
    try simp only [go_sem, seval]
    refine hK2 _ _ _ ?_
    first | clear hK2 K2 | skip
    refine awp_rq zs [2] ?_
    refine awp_ret ?_
    try simp only [go_sem, seval]
    refine ⟨_, rfl, ?_, Frz.eq (by rw [hres]) trivial⟩
    intro k hk; have h0 : k ≠ n := by omega
    first | (simp [Heap.put, h0]; done) | exact hH k hk | (have h1 : k ≠ n1 := (by omega); simp [Heap.put, h0, h1, hH k hk])
theorem c_ref3_version (e : Ent) (H : Heap) (n : Nat) : Ret Tryz.prog 50 [entAV e] H n (.bool (rVer e)) H n := by
  refine Ret.fin ?_
  refine acalls_of_awp Tryz.func50 rfl Tryz.ntmps50 (congrArg Array.toList Tryz.results50) (by simp) ?_
  simp only [go_sem]
  refine awp_rq zs [1] ?_
  refine awp_rq zs [2] ?_
  refine awp_ret ?_
  try simp only [go_sem, seval]
  refine ⟨_, rfl, ?_, Frz.eq rfl trivial⟩
  intro k hk; have h0 : k ≠ n := by omega
  simp [Heap.put, h0]
theorem c_ref3_mates (a b : Ent) (H : Heap) (n : Nat) : Ret Tryz.prog 44 [entAV a, entAV b] H n (.bool (rMates a b)) H n := by
  refine Ret.fin ?_
  refine acalls_of_awp Tryz.func44 rfl Tryz.ntmps44 (congrArg Array.toList Tryz.results44) (by simp) ?_
  simp only [go_sem]
  refine awp_rq zs [2, 3] ?_
  refine awp_reg zs [4] fun K hK => ?_
  try simp only [go_sem, seval]
  refine callG_use Tryz.func60 rfl rfl rfl (fun _ => (c_ref3_Alike a.row b.row _ _)) ?_
  try simp only [go_sem, seval]
  repeat refine peel ?_
  refine callG_use Tryz.func60 rfl rfl rfl (fun _ => (c_ref3_Alike a.qual b.qual _ _)) ?_
  try simp only [go_sem, seval]
  repeat refine peel ?_
  refine hK _ _ _ ?_; clear hK K
  refine awp_ret ?_
  try simp only [go_sem, seval]
  refine ⟨_, rfl, ?_, Frz.eq ?_ trivial⟩
  · intro k hk; have h0 : k ≠ n := by omega
    have h1 : ∀ j, k ≠ n + j := fun j => by omega
    simp [Heap.put, h0, h1]
  · simp only [cond_and]; rfl
theorem c_ref3_out (x : Int) (H : Heap) (n : Nat) : Ret Tryz.prog 70 [.int .i64 x] H n (.bool (tOut x)) H n := by
  refine acalls_of_awp Tryz.func70 rfl Tryz.ntmps70 (congrArg Array.toList Tryz.results70) (by simp) ?_
  simp only [go_sem]
  refine awp_rq zs [0] ?_
  refine awp_rq zs [2] ?_
  refine awp_ret ?_
  try simp only [go_sem, seval]
  simp only [cond_or]; rfl
theorem c_ref3_Mask (l : List Ent) (e : Ent) (hl : l.length < 4611686018427387904) (H : Heap) (n : Nat) : Ret Tryz.prog 82 [entsAV l, entAV e] H n (.int .i64 (rMask l e)) H n := by
  refine Ret.fin ?_
  refine acalls_of_awp Tryz.func82 rfl Tryz.ntmps82 (congrArg Array.toList Tryz.results82) (by simp) ?_
  simp only [go_sem]
  refine awp_rq zs [0, 3] ?_
  refine awp_rq zs [0, 3, 5] ?_
  refine awp_seq_k fun K1 hK1 => ?_
  refine awp_rq zs [0, 3, 5, 6] ?_
  refine awp_block ?_
  refine awp_loop (fun T' H' n' => ∃ (i : Nat) (m : Int), i ≤ l.length ∧ T' = tl [(0, .sl 7 (l.map entAV)), (3, .loc n 0 0 0 []), (5, .int .i64 m), (6, .int .i64 i)] ∧ n + 1 ≤ n' ∧ H' n = some (.arr 0 7 [entAV e]) ∧ (∀ k, k < n → H' k = H k) ∧ (l.drop i).foldl (rMaskS e) m = rMask l e) (fun T' _ _ => l.length - iv (T' 6)) ?_ ?_
  ·skip
   exact ⟨0, 0, Nat.zero_le _, rfl, by omega, Heap.put_same _ _ _, fun k hk => Heap.put_ne _ _ (by omega), rfl⟩
  intro T1 H1 n1
  rintro ⟨i, m, hi, rfl, hn, hHn, hrest, hd⟩
  refine awp_seq_k fun K2 hK2 => ?_
  refine awp_rq zs [0, 3, 5, 6, 12] ?_
  refine awp_cnd (fun hb => ?_) (fun hb => ?_)
  ·skip
   have hlt : i < l.length := by simpa using hb
   rw [drop_cons l i hlt, List.foldl_cons] at hd
   have hnth : nth (l.map entAV) i = entAV (l.getD i default) := nth_map entAV l i hlt
   generalize l.getD i default = x at *
   have q1 : (n = n1) = False := by simp; omega
   have q2 : (n1 = n) = False := by simp; omega
   refine awp_skip ?_
   try simp only [go_sem, seval]
   refine hK2 _ _ _ ?_
   first | clear hK2 K2 | skip
   refine awp_seq_k fun K3 hK3 => ?_
   refine awp_block ?_
   refine awp_reg zs [0, 3, 5, 6, 7] fun K hK => ?_
   try simp only [go_sem, seval, Int.toNat_natCast, hnth]
   repeat refine peel ?_
   refine hK _ _ _ ?_; clear hK K
   refine awp_reg zs [0, 3, 5, 6, 7, 8] fun K hK => ?_
   try simp only [go_sem, seval, hHn, q1]
   repeat (first | (refine And.intro ?_ ?_; · first | (intro _ hh; rw [hh]; rfl)) | refine peel ?_)
   refine callG_use Tryz.func60 rfl rfl rfl (fun _ => (c_ref3_Alike x.row e.row _ _)) ?_
   try simp only [go_sem, seval, hHn, q1]
   repeat (first | (refine And.intro ?_ ?_; · first | (intro _ hh; rw [hh]; rfl)) | refine peel ?_)
   refine callG_use Tryz.func44 rfl rfl rfl (fun _ => (c_ref3_mates x e _ _)) ?_
   try simp only [go_sem, seval]
   repeat (first | (refine And.intro ?_ ?_; · first | (intro _ hh; rw [hh]; rfl)) | refine peel ?_)
   refine hK _ _ _ ?_; clear hK K
   refine awp_reg zs [0, 3, 5, 6, 7, 52] fun K hK => ?_
   try simp only [go_sem, seval]
   repeat refine peel ?_
   refine hK _ _ _ ?_; clear hK K
   refine awp_cnd (fun hb => ?_) (fun hb => ?_)
   ·skip
    have hs : rMaskS e m x = x.ts := if_pos (by simp only [cond_and, cond_or] at hb; exact hb)
    refine awp_reg1 zs [0, 3, 5, 6] fun K hK => ?_
    try simp only [go_sem, seval]
    refine hK _ _ _ ?_; clear hK K
    try simp only [go_sem, seval]
    refine hK3 _ _ _ ?_
    first | clear hK3 K3 | skip
    refine awp_reg1 zs [0, 3, 5, 6] fun K hK => ?_
    try simp only [go_sem, seval]
    refine hK _ _ _ ?_; clear hK K
    try simp only [go_sem, seval]
    rw [hs] at hd
    refine ⟨⟨i + 1, _, by omega, by rw [w1 (by omega)], by omega, ?_, ?_, hd⟩, by rw [w1 (by omega)]; simp; omega⟩
    · first | (simp [q1, hHn]; done) | (simp [q1, hHn]; rfl)
    · intro k hk; have h0 : k ≠ n1 := by omega
      simp [h0, hrest k hk]
   ·skip
    have hs : rMaskS e m x = m := if_neg (by simp only [cond_and, cond_or] at hb; exact Bool.eq_false_iff.1 hb)
    refine awp_skip ?_
    try simp only [go_sem, seval]
    refine hK3 _ _ _ ?_
    first | clear hK3 K3 | skip
    refine awp_reg1 zs [0, 3, 5, 6] fun K hK => ?_
    try simp only [go_sem, seval]
    refine hK _ _ _ ?_; clear hK K
    try simp only [go_sem, seval]
    rw [hs] at hd
    refine ⟨⟨i + 1, _, by omega, by rw [w1 (by omega)], by omega, ?_, ?_, hd⟩, by rw [w1 (by omega)]; simp; omega⟩
    · first | (simp [q1, hHn]; done) | (simp [q1, hHn]; rfl)
    · intro k hk; have h0 : k ≠ n1 := by omega
      simp [h0, hrest k hk]
  ·skip
   have hge : i = l.length := by simp at hb; omega
   rw [hge, List.drop_length, List.foldl_nil] at hd
   refine awp_exit ?_
   try simp only [go_sem, seval]
   refine hK1 _ _ _ ?_
   first | clear hK1 K1 | skip
   refine awp_rq zs [4] ?_
   refine awp_ret ?_
   try simp only [go_sem, seval]
   exact ⟨_, rfl, hrest, Frz.eq (by rw [← hd]) trivial⟩
theorem c_ref3_group (l : List Ent) (e : Ent) (hl : l.length < 4611686018427387904) (H : Heap) (n : Nat) : Ret Tryz.prog 51 [entsAV l, entAV e] H n (.tup [.int .i64 (rGroup l e).1, .bool (rGroup l e).2]) H n := by
  refine Ret.fin ?_
  refine acalls_of_awp Tryz.func51 rfl Tryz.ntmps51 (congrArg Array.toList Tryz.results51) (by simp) ?_
  simp only [go_sem]
  refine awp_rq zs [0, 3] ?_
  refine awp_rq zs [0, 3, 6] ?_
  refine awp_rq zs [0, 3, 6, 7] ?_
  refine awp_seq_k fun K1 hK1 => ?_
  refine awp_rq zs [0, 3, 6, 7, 8] ?_
  refine awp_block ?_
  refine awp_loop (fun T' H' n' => ∃ (i : Nat) (p : Ent × Int), i ≤ l.length ∧ 0 ≤ p.2 ∧ p.2 ≤ i ∧ T' = tl [(0, .sl 7 (l.map entAV)), (3, .loc n 0 0 0 []), (6, .loc (n + 1) 0 0 0 []), (7, .int .i64 p.2), (8, .int .i64 i)] ∧ n + 2 ≤ n' ∧ H' n = some (.arr 0 7 [entAV e]) ∧ H' (n + 1) = some (.arr 0 7 [entAV p.1]) ∧ (∀ k, k < n → H' k = H k) ∧ (l.drop i).foldl (rGrpS e) p = rGrp l e) (fun T' _ _ => l.length - iv (T' 8)) ?_ ?_
  ·skip
   refine ⟨0, (e, 0), Nat.zero_le _, Int.le_refl _, Int.le_refl _, rfl, by omega, ?_, ?_, ?_, rfl⟩
   · first | (simp [Heap.put]; done) | (simp [Heap.put]; rfl)
   · first | (simp [Heap.put]; done) | (simp [Heap.put]; rfl)
   · intro k hk; have h0 : k ≠ n := by omega
     have h1 : k ≠ n + 1 := by omega
     simp [Heap.put, h0, h1]
  intro T1 H1 n1
  rintro ⟨i, p, hi, hp0, hpi, rfl, hn, hHn, hHb, hrest, hd⟩
  refine awp_seq_k fun K2 hK2 => ?_
  refine awp_rq zs [0, 3, 6, 7, 8, 16] ?_
  refine awp_cnd (fun hb => ?_) (fun hb => ?_)
  ·skip
   have hlt : i < l.length := by simpa using hb
   rw [drop_cons l i hlt, List.foldl_cons] at hd
   have hnth : nth (l.map entAV) i = entAV (l.getD i default) := nth_map entAV l i hlt
   generalize l.getD i default = x at *
   have q1 : (n = n1) = False := by simp; omega
   have q2 : (n1 = n) = False := by simp; omega
   have q3 : (n + 1 = n1) = False := by simp; omega
   have q4 : (n1 = n + 1) = False := by simp; omega
   have hwr : IntKind.i64.wrap (p.2 + 1) = p.2 + 1 := w64 (by omega) (by omega)
   refine awp_skip ?_
   try simp only [go_sem, seval]
   refine hK2 _ _ _ ?_
   first | clear hK2 K2 | skip
   refine awp_seq_k fun K3 hK3 => ?_
   refine awp_block ?_
   refine awp_reg zs [0, 3, 6, 7, 8, 9] fun K hK => ?_
   try simp only [go_sem, seval, Int.toNat_natCast, hnth]
   repeat refine peel ?_
   refine hK _ _ _ ?_; clear hK K
   refine awp_reg zs [0, 3, 6, 7, 8, 9, 10] fun K hK => ?_
   try simp only [go_sem, seval]
   refine callK_use Tryz.func50 rfl rfl rfl ((c_ref3_version x _ _)) ?_
   try simp only [go_sem, seval, hHn, q1]
   repeat refine peel ?_
   refine callG_use Tryz.func44 rfl rfl rfl (fun _ => (c_ref3_mates x e _ _)) ?_
   try simp only [go_sem, seval]
   repeat refine peel ?_
   refine hK _ _ _ ?_; clear hK K
   refine awp_seq_k fun K4 hK4 => ?_
   refine awp_rq zs [0, 3, 6, 7, 8, 9, 38] ?_
   refine awp_cnd (fun hb => ?_) (fun hb => ?_)
   ·skip
    have hx : rIn1 e x = false := by simp only [cond_and, Bool.not_eq_true'] at hb; exact hb
    have hs : rGrpS e p x = p := if_neg (by rw [hx]; simp)
    refine awp_exit ?_
    try simp only [go_sem, seval]
    refine hK3 _ _ _ ?_
    first | clear hK3 K3 | skip
    refine awp_reg1 zs [0, 3, 6, 7, 8] fun K hK => ?_
    try simp only [go_sem, seval]
    refine hK _ _ _ ?_; clear hK K
    try simp only [go_sem, seval]
    rw [hs] at hd
    refine ⟨⟨i + 1, _, by omega, ?_, ?_, ?_, by omega, ?_, ?_, ?_, hd⟩, by rw [w1 (by omega)]; simp; omega⟩
    · first | exact hp0 | (show 0 ≤ p.2 + 1; omega)
    · first | (show p.2 + 1 ≤ _; omega) | (show p.2 ≤ _; omega)
    · rw [w1 (by omega)]
    · first | (simp [q1, q2, q3, q4, hHn]; done) | (simp [q1, q2, q3, q4, hHn]; rfl)
    · first | (simp [q1, q2, q3, q4, hHb]; done) | (simp [q1, q2, q3, q4, hHb]; rfl) | (simp [q1, q2, q3, q4, hHb, h43]; done) | (simp [q1, q2, q3, q4, hHb, h43]; rfl)
    · intro k hk; have h0 : k ≠ n1 := by omega
      have h1 : k ≠ n + 1 := by omega
      simp [h0, h1, hrest k hk]
   ·skip
    have hx : rIn1 e x = true := by simp only [cond_and, Bool.not_eq_false'] at hb; exact hb
    refine awp_skip ?_
    try simp only [go_sem, seval]
    refine hK4 _ _ _ ?_
    first | clear hK4 K4 | skip
    refine awp_seq_k fun K5 hK5 => ?_
    refine awp_reg zs [0, 3, 6, 7, 8, 9, 43] fun K hK => ?_
    try simp only [go_sem, seval, hHb, q3]
    refine hK _ _ _ ?_; clear hK K
    refine awp_cnd (fun hb => ?_) (fun hb => ?_)
    ·skip
     have h43 : p.1.seq < x.seq := by simpa using hb
     refine awp_reg1 zs [0, 3, 6, 7, 8, 9] fun K hK => ?_
     try simp only [go_sem, seval, hHb, q3]
     refine hK _ _ _ ?_; clear hK K
     try simp only [go_sem, seval]
     refine hK5 _ _ _ ?_
     first | clear hK5 K5 | skip
     refine awp_reg zs [0, 3, 6, 7, 8, 47] fun K hK => ?_
     try simp only [go_sem, seval, q4]
     refine hK _ _ _ ?_; clear hK K
     refine awp_cnd (fun hb => ?_) (fun hb => ?_)
     ·skip
      have h47 : ¬ x.kind = 3 := by simpa using hb
      have hs : rGrpS e p x = (if p.1.seq < x.seq then x else p.1, p.2 + 1) := by unfold rGrpS; rw [if_pos hx, if_neg h47]
      refine awp_reg1 zs [0, 3, 6, 7, 8] fun K hK => ?_
      try simp only [go_sem, seval, hwr]
      refine hK _ _ _ ?_; clear hK K
      try simp only [go_sem, seval]
      refine hK3 _ _ _ ?_
      first | clear hK3 K3 | skip
      refine awp_reg1 zs [0, 3, 6, 7, 8] fun K hK => ?_
      try simp only [go_sem, seval]
      refine hK _ _ _ ?_; clear hK K
      try simp only [go_sem, seval]
      rw [hs] at hd
      refine ⟨⟨i + 1, _, by omega, ?_, ?_, ?_, by omega, ?_, ?_, ?_, hd⟩, by rw [w1 (by omega)]; simp; omega⟩
      · first | exact hp0 | (show 0 ≤ p.2 + 1; omega)
      · first | (show p.2 + 1 ≤ _; omega) | (show p.2 ≤ _; omega)
      · rw [w1 (by omega)]
      · first | (simp [q1, q2, q3, q4, hHn]; done) | (simp [q1, q2, q3, q4, hHn]; rfl)
      · first | (simp [q1, q2, q3, q4, hHb]; done) | (simp [q1, q2, q3, q4, hHb]; rfl) | (simp [q1, q2, q3, q4, hHb, h43]; done) | (simp [q1, q2, q3, q4, hHb, h43]; rfl)
      · intro k hk; have h0 : k ≠ n1 := by omega
        have h1 : k ≠ n + 1 := by omega
        simp [h0, h1, hrest k hk]
     ·skip
      have h47 : x.kind = 3 := by simpa using hb
      have hs : rGrpS e p x = (if p.1.seq < x.seq then x else p.1, p.2) := by unfold rGrpS; rw [if_pos hx, if_pos h47]
      refine awp_skip ?_
      try simp only [go_sem, seval]
      refine hK3 _ _ _ ?_
      first | clear hK3 K3 | skip
      refine awp_reg1 zs [0, 3, 6, 7, 8] fun K hK => ?_
      try simp only [go_sem, seval]
      refine hK _ _ _ ?_; clear hK K
      try simp only [go_sem, seval]
      rw [hs] at hd
      refine ⟨⟨i + 1, _, by omega, ?_, ?_, ?_, by omega, ?_, ?_, ?_, hd⟩, by rw [w1 (by omega)]; simp; omega⟩
      · first | exact hp0 | (show 0 ≤ p.2 + 1; omega)
      · first | (show p.2 + 1 ≤ _; omega) | (show p.2 ≤ _; omega)
      · rw [w1 (by omega)]
      · first | (simp [q1, q2, q3, q4, hHn]; done) | (simp [q1, q2, q3, q4, hHn]; rfl)
      · first | (simp [q1, q2, q3, q4, hHb]; done) | (simp [q1, q2, q3, q4, hHb]; rfl) | (simp [q1, q2, q3, q4, hHb, h43]; done) | (simp [q1, q2, q3, q4, hHb, h43]; rfl)
      · intro k hk; have h0 : k ≠ n1 := by omega
        have h1 : k ≠ n + 1 := by omega
        simp [h0, h1, hrest k hk]
    ·skip
     have h43 : ¬ p.1.seq < x.seq := by simpa using hb
     refine awp_skip ?_
     try simp only [go_sem, seval]
     refine hK5 _ _ _ ?_
     first | clear hK5 K5 | skip
     refine awp_reg zs [0, 3, 6, 7, 8, 47] fun K hK => ?_
     try simp only [go_sem, seval]
     refine hK _ _ _ ?_; clear hK K
     refine awp_cnd (fun hb => ?_) (fun hb => ?_)
     ·skip
      have h47 : ¬ x.kind = 3 := by simpa using hb
      have hs : rGrpS e p x = (if p.1.seq < x.seq then x else p.1, p.2 + 1) := by unfold rGrpS; rw [if_pos hx, if_neg h47]
      refine awp_reg1 zs [0, 3, 6, 7, 8] fun K hK => ?_
      try simp only [go_sem, seval, hwr]
      refine hK _ _ _ ?_; clear hK K
      try simp only [go_sem, seval]
      refine hK3 _ _ _ ?_
      first | clear hK3 K3 | skip
      refine awp_reg1 zs [0, 3, 6, 7, 8] fun K hK => ?_
      try simp only [go_sem, seval]
      refine hK _ _ _ ?_; clear hK K
      try simp only [go_sem, seval]
      rw [hs] at hd
      refine ⟨⟨i + 1, _, by omega, ?_, ?_, ?_, by omega, ?_, ?_, ?_, hd⟩, by rw [w1 (by omega)]; simp; omega⟩
      · first | exact hp0 | (show 0 ≤ p.2 + 1; omega)
      · first | (show p.2 + 1 ≤ _; omega) | (show p.2 ≤ _; omega)
      · rw [w1 (by omega)]
      · first | (simp [q1, q2, q3, q4, hHn]; done) | (simp [q1, q2, q3, q4, hHn]; rfl)
      · first | (simp [q1, q2, q3, q4, hHb]; done) | (simp [q1, q2, q3, q4, hHb]; rfl) | (simp [q1, q2, q3, q4, hHb, h43]; done) | (simp [q1, q2, q3, q4, hHb, h43]; rfl)
      · intro k hk; have h0 : k ≠ n1 := by omega
        have h1 : k ≠ n + 1 := by omega
        simp [h0, h1, hrest k hk]
     ·skip
      have h47 : x.kind = 3 := by simpa using hb
      have hs : rGrpS e p x = (if p.1.seq < x.seq then x else p.1, p.2) := by unfold rGrpS; rw [if_pos hx, if_pos h47]
      refine awp_skip ?_
      try simp only [go_sem, seval]
      refine hK3 _ _ _ ?_
      first | clear hK3 K3 | skip
      refine awp_reg1 zs [0, 3, 6, 7, 8] fun K hK => ?_
      try simp only [go_sem, seval]
      refine hK _ _ _ ?_; clear hK K
      try simp only [go_sem, seval]
      rw [hs] at hd
      refine ⟨⟨i + 1, _, by omega, ?_, ?_, ?_, by omega, ?_, ?_, ?_, hd⟩, by rw [w1 (by omega)]; simp; omega⟩
      · first | exact hp0 | (show 0 ≤ p.2 + 1; omega)
      · first | (show p.2 + 1 ≤ _; omega) | (show p.2 ≤ _; omega)
      · rw [w1 (by omega)]
      · first | (simp [q1, q2, q3, q4, hHn]; done) | (simp [q1, q2, q3, q4, hHn]; rfl)
      · first | (simp [q1, q2, q3, q4, hHb]; done) | (simp [q1, q2, q3, q4, hHb]; rfl) | (simp [q1, q2, q3, q4, hHb, h43]; done) | (simp [q1, q2, q3, q4, hHb, h43]; rfl)
      · intro k hk; have h0 : k ≠ n1 := by omega
        have h1 : k ≠ n + 1 := by omega
        simp [h0, h1, hrest k hk]
  ·skip
   have hge : i = l.length := by simp at hb; omega
   rw [hge, List.drop_length, List.foldl_nil] at hd
   refine awp_exit ?_
   try simp only [go_sem, seval]
   refine hK1 _ _ _ ?_
   first | clear hK1 K1 | skip
   refine awp_reg zs [3, 6, 7, 11] fun K hK => ?_
   try simp only [go_sem, seval, hHb]
   refine hK _ _ _ ?_; clear hK K
   refine awp_seq_k fun K6 hK6 => ?_
   refine awp_rq zs [3, 6, 7, 11, 53] ?_
   refine awp_cnd (fun hb => ?_) (fun hb => ?_)
   ·skip
    have h53 : p.1.kind = 3 := by simpa using hb
    refine awp_rq zs [3, 6, 7, 11] ?_
    refine awp_rq zs [3, 6, 11, 55] ?_
    refine awp_cnd (fun hb => ?_) (fun hb => ?_)
    ·skip
     have h55 : 0 < p.2 := by simpa using hb
     have hk : (rGroup l e).1 = 2 := by unfold rGroup rKind; rw [← hd]; simp only [h53, h55, if_true]
     refine awp_reg1 zs [3, 6, 11] fun K hK => ?_
     try simp only [go_sem, seval]
     refine hK _ _ _ ?_; clear hK K
     try simp only [go_sem, seval]
     refine hK6 _ _ _ ?_
     first | clear hK6 K6 | skip
     refine awp_drw rfl zs [4, 5] [.m, .q, .q, .q, .q, .q, .q, .q] (by kernel_rfl) (fun _ _ _ _ _ h => h) fun K hK => ?_
     try simp only [go_sem, seval, hHb, hHn]
     refine hK _ _ _ ?_; clear hK K
     refine awp_ret ?_
     try simp only [go_sem, seval]
     first | (have hk9 := hk) | (have hk : (rGroup l e).1 = p.1.kind := by unfold rGroup rKind; rw [← hd]; simp only [h53, if_false])
     refine ⟨_, rfl, hrest, Frz.eq ?_ ⟨trivial, trivial, trivial⟩⟩
     rw [hk]
     unfold rGroup; rw [← hd]
    ·skip
     have h55 : ¬ 0 < p.2 := by simpa using hb
     have hk : (rGroup l e).1 = 0 := by unfold rGroup rKind; rw [← hd]; simp only [h53, h55, if_true, if_false]
     refine awp_skip ?_
     try simp only [go_sem, seval]
     refine hK6 _ _ _ ?_
     first | clear hK6 K6 | skip
     refine awp_drw rfl zs [4, 5] [.m, .q, .q, .q, .q, .q, .q, .q] (by kernel_rfl) (fun _ _ _ _ _ h => h) fun K hK => ?_
     try simp only [go_sem, seval, hHb, hHn]
     refine hK _ _ _ ?_; clear hK K
     refine awp_ret ?_
     try simp only [go_sem, seval]
     first | (have hk9 := hk) | (have hk : (rGroup l e).1 = p.1.kind := by unfold rGroup rKind; rw [← hd]; simp only [h53, if_false])
     refine ⟨_, rfl, hrest, Frz.eq ?_ ⟨trivial, trivial, trivial⟩⟩
     rw [hk]
     unfold rGroup; rw [← hd]
   ·skip
    have h53 : ¬ p.1.kind = 3 := by simpa using hb
    refine awp_skip ?_
    try simp only [go_sem, seval]
    refine hK6 _ _ _ ?_
    first | clear hK6 K6 | skip
    refine awp_drw rfl zs [4, 5] [.m, .q, .q, .q, .q, .q, .q, .q] (by kernel_rfl) (fun _ _ _ _ _ h => h) fun K hK => ?_
    try simp only [go_sem, seval, hHb, hHn]
    refine hK _ _ _ ?_; clear hK K
    refine awp_ret ?_
    try simp only [go_sem, seval]
    first | (have hk9 := hk) | (have hk : (rGroup l e).1 = p.1.kind := by unfold rGroup rKind; rw [← hd]; simp only [h53, if_false])
    refine ⟨_, rfl, hrest, Frz.eq ?_ ⟨trivial, trivial, trivial⟩⟩
    rw [hk]
    unfold rGroup; rw [← hd]
theorem fam_nth (s : List Fml) {i : Int} (h0 : 0 ≤ i) (h : i < s.length) : nth (s.map famAV) i.toNat = famAV (famAt s i) := nth_map famAV _ _ (by omega)
theorem c_ref3_expired (s : List Fml) (clock : Int) (e : Ent) (ht : ∀ f ∈ s, 0 ≤ f.ttl ∧ f.ttl ≤ 1099511627776) (he : goodE s e) (H : Heap) (n : Nat) : Ret Tryz.prog 83 [schAV s, .int .i64 clock, entAV e] H n (.bool (rExp s clock e)) H n := by
  obtain ⟨g1, g2, g3, g4, g5⟩ := he
  have hnth := fam_nth s g1 g2
  have htl := ht _ (famAt_mem g1 g2)
  have hwr : IntKind.i64.wrap (e.ts + (famAt s e.fam).ttl) = e.ts + (famAt s e.fam).ttl := w64 (by omega) (by omega)
  refine Ret.fin ?_
  refine acalls_of_awp Tryz.func83 rfl Tryz.ntmps83 (congrArg Array.toList Tryz.results83) (by simp) ?_
  simp only [go_sem]
  refine awp_rq zs [1, 3, 5] ?_
  refine awp_reg zs [1, 5, 7] fun K hK => ?_
  try simp only [go_sem, seval, hnth]
  repeat refine peel ?_
  refine hK _ _ _ ?_; clear hK K
  refine awp_reg zs [6] fun K hK => ?_
  try simp only [go_sem, seval, hwr]
  repeat refine peel ?_
  refine hK _ _ _ ?_; clear hK K
  refine awp_ret ?_
  try simp only [go_sem, seval]
  refine ⟨_, rfl, ?_, Frz.eq ?_ trivial⟩
  · intro k hk; have h0 : k ≠ n := by omega
    have h1 : ∀ j, k ≠ n + j := fun j => by omega
    simp [Heap.put, h0, h1]
  · simp only [cond_and]; rfl
theorem c_ref3_in (s : List Fml) (clock : Int) (l : List Ent) (e : Ent) (hl : l.length < 4611686018427387904) (ht : ∀ f ∈ s, 0 ≤ f.ttl ∧ f.ttl ≤ 1099511627776) (he : goodE s e) (H : Heap) (n : Nat) : Ret Tryz.prog 52 [schAV s, .int .i64 clock, entsAV l, entAV e] H n (.bool (rIn s clock l e)) H n := by
  refine Ret.fin ?_
  refine acalls_of_awp Tryz.func52 rfl Tryz.ntmps52 (congrArg Array.toList Tryz.results52) (by simp) ?_
  simp only [go_sem]
  refine awp_rq zs [1, 2, 4, 7] ?_
  refine awp_reg zs [1, 4, 7, 9] fun K hK => ?_
  try simp only [go_sem, seval]
  refine callK_use Tryz.func82 rfl rfl rfl ((c_ref3_Mask l e hl _ _)) ?_
  try simp only [go_sem, seval]
  refine hK _ _ _ ?_; clear hK K
  refine awp_reg zs [7, 9, 10] fun K hK => ?_
  try simp only [go_sem, seval]
  refine callK_use Tryz.func83 rfl rfl rfl ((c_ref3_expired s clock e ht he _ _)) ?_
  try simp only [go_sem, seval]
  refine hK _ _ _ ?_; clear hK K
  refine awp_rq zs [8] ?_
  refine awp_ret ?_
  try simp only [go_sem, seval]
  refine ⟨_, rfl, ?_, Frz.eq ?_ trivial⟩
  · intro k hk; have h0 : k ≠ n := by omega
    have h1 : ∀ j, k ≠ n + j := fun j => by omega
    simp [Heap.put, h0, h1]
  · simp only [cond_and]; rfl
theorem c_ref3_rank (s : List Fml) (clock : Int) (l : List Ent) (e : Ent) (hl : l.length < 4611686018427387904) (ht : ∀ f ∈ s, 0 ≤ f.ttl ∧ f.ttl ≤ 1099511627776) (hg : ∀ x ∈ l, goodE s x) (H : Heap) (n : Nat) : Ret Tryz.prog 71 [schAV s, .int .i64 clock, entsAV l, entAV e] H n (.int .i64 (rRank s clock l e)) H n := by
  refine Ret.fin ?_
  refine acalls_of_awp Tryz.func71 rfl Tryz.ntmps71 (congrArg Array.toList Tryz.results71) (by simp) ?_
  simp only [go_sem]
  refine awp_rq zs [1, 2, 4, 7] ?_
  refine awp_rq zs [1, 2, 4, 7, 9] ?_
  refine awp_seq_k fun K1 hK1 => ?_
  refine awp_rq zs [1, 2, 4, 7, 9, 10] ?_
  refine awp_block ?_
  refine awp_loop (fun T' H' n' => ∃ (i : Nat) (c : Int), i ≤ l.length ∧ 1 ≤ c ∧ c ≤ i + 1 ∧ T' = tl [(1, .int .i64 clock), (2, .sl 7 (l.map entAV)), (4, .loc n 0 0 0 []), (7, .loc (n + 1) 0 0 0 []), (9, .int .i64 c), (10, .int .i64 i)] ∧ n + 2 ≤ n' ∧ H' n = some (.arr 0 1 [.agg [.sl 3 (s.map famAV)]]) ∧ H' (n + 1) = some (.arr 0 7 [entAV e]) ∧ (∀ k, k < n → H' k = H k) ∧ (l.drop i).foldl (rRankS s clock l e) c = rRank s clock l e) (fun T' _ _ => l.length - iv (T' 10)) ?_ ?_
  ·skip
   refine ⟨0, 1, Nat.zero_le _, by decide, by decide, rfl, by omega, ?_, ?_, ?_, rfl⟩
   · first | (simp [Heap.put]; done) | (simp [Heap.put]; rfl)
   · first | (simp [Heap.put]; done) | (simp [Heap.put]; rfl)
   · intro k hk; have h0 : k ≠ n := by omega
     have h1 : k ≠ n + 1 := by omega
     simp [Heap.put, h0, h1]
  intro T1 H1 n1
  rintro ⟨i, c, hi, hc1, hci, rfl, hn, hHn, hHe, hrest, hd⟩
  refine awp_seq_k fun K2 hK2 => ?_
  refine awp_rq zs [1, 2, 4, 7, 9, 10, 19] ?_
  refine awp_cnd (fun hb => ?_) (fun hb => ?_)
  ·skip
   have hlt : i < l.length := by simpa using hb
   rw [drop_cons l i hlt, List.foldl_cons] at hd
   have hnth : nth (l.map entAV) i = entAV (l.getD i default) := nth_map entAV l i hlt
   have hgx : goodE s (l.getD i default) := hg _ (by simp [List.getD, List.getElem?_eq_getElem hlt])
   generalize l.getD i default = x at *
   have q1 : (n = n1) = False := by simp; omega
   have q2 : (n1 = n) = False := by simp; omega
   have q3 : (n + 1 = n1) = False := by simp; omega
   have q4 : (n1 = n + 1) = False := by simp; omega
   have hwr : IntKind.i64.wrap (c + 1) = c + 1 := w64 (by omega) (by omega)
   refine awp_skip ?_
   try simp only [go_sem, seval]
   refine hK2 _ _ _ ?_
   first | clear hK2 K2 | skip
   refine awp_seq_k fun K3 hK3 => ?_
   refine awp_block ?_
   refine awp_reg zs [1, 2, 4, 7, 9, 10, 11] fun K hK => ?_
   try simp only [go_sem, seval, Int.toNat_natCast, hnth]
   repeat refine peel ?_
   refine hK _ _ _ ?_; clear hK K
   refine awp_reg zs [1, 2, 4, 7, 9, 10, 11, 12] fun K hK => ?_
   try simp only [go_sem, seval]
   refine callK_use Tryz.func50 rfl rfl rfl ((c_ref3_version x _ _)) ?_
   try simp only [go_sem, seval, hHe, q3]
   repeat refine peel ?_
   refine callG_use Tryz.func44 rfl rfl rfl (fun _ => (c_ref3_mates x e _ _)) ?_
   try simp only [go_sem, seval]
   repeat refine peel ?_
   refine hK _ _ _ ?_; clear hK K
   refine awp_seq_k fun K4 hK4 => ?_
   refine awp_rq zs [1, 2, 4, 7, 9, 10, 11, 41] ?_
   refine awp_cnd (fun hb => ?_) (fun hb => ?_)
   ·skip
    have hx : rUp e x = false := by simp only [cond_and, Bool.not_eq_true'] at hb; exact hb
    have hs : rRankS s clock l e c x = c := if_neg (by rw [hx]; simp)
    refine awp_exit ?_
    try simp only [go_sem, seval]
    refine hK3 _ _ _ ?_
    first | clear hK3 K3 | skip
    refine awp_reg1 zs [1, 2, 4, 7, 9, 10] fun K hK => ?_
    try simp only [go_sem, seval]
    refine hK _ _ _ ?_; clear hK K
    try simp only [go_sem, seval]
    rw [hs] at hd
    refine ⟨⟨i + 1, _, by omega, ?_, ?_, ?_, by omega, ?_, ?_, ?_, hd⟩, by rw [w1 (by omega)]; simp; omega⟩
    · omega
    · omega
    · rw [w1 (by omega)]
    · first | (simp [q1, q2, q3, q4, hHn]; done) | (simp [q1, q2, q3, q4, hHn]; rfl)
    · first | (simp [q1, q2, q3, q4, hHe]; done) | (simp [q1, q2, q3, q4, hHe]; rfl)
    · intro k hk; have h0 : k ≠ n1 := by omega
      simp [h0, hrest k hk]
   ·skip
    have hx : rUp e x = true := by simp only [cond_and, Bool.not_eq_false'] at hb; exact hb
    refine awp_skip ?_
    try simp only [go_sem, seval]
    refine hK4 _ _ _ ?_
    first | clear hK4 K4 | skip
    refine awp_reg zs [1, 2, 4, 7, 9, 10, 11, 13, 14] fun K hK => ?_
    try simp only [go_sem, seval]
    refine callK_use Tryz.func51 rfl rfl rfl ((c_ref3_group l x hl _ _)) ?_
    try simp only [go_sem, seval]
    refine hK _ _ _ ?_; clear hK K
    refine awp_reg zs [1, 2, 4, 7, 9, 10, 13, 14, 15] fun K hK => ?_
    try simp only [go_sem, seval, hHn, q1]
    refine callK_use Tryz.func52 rfl rfl rfl ((c_ref3_in s clock l x hl ht hgx _ _)) ?_
    try simp only [go_sem, seval]
    refine hK _ _ _ ?_; clear hK K
    refine awp_rq zs [1, 2, 4, 7, 9, 10, 60] ?_
    refine awp_cnd (fun hb => ?_) (fun hb => ?_)
    ·skip
     have h60 : rHere s clock l x = true := by simp only [cond_and] at hb; exact hb
     have hs : rRankS s clock l e c x = c + 1 := if_pos (by rw [hx, h60]; rfl)
     refine awp_reg1 zs [1, 2, 4, 7, 9, 10] fun K hK => ?_
     try simp only [go_sem, seval, hwr]
     refine hK _ _ _ ?_; clear hK K
     try simp only [go_sem, seval]
     refine hK3 _ _ _ ?_
     first | clear hK3 K3 | skip
     refine awp_reg1 zs [1, 2, 4, 7, 9, 10] fun K hK => ?_
     try simp only [go_sem, seval]
     refine hK _ _ _ ?_; clear hK K
     try simp only [go_sem, seval]
     rw [hs] at hd
     refine ⟨⟨i + 1, _, by omega, ?_, ?_, ?_, by omega, ?_, ?_, ?_, hd⟩, by rw [w1 (by omega)]; simp; omega⟩
     · omega
     · omega
     · rw [w1 (by omega)]
     · first | (simp [q1, q2, q3, q4, hHn]; done) | (simp [q1, q2, q3, q4, hHn]; rfl)
     · first | (simp [q1, q2, q3, q4, hHe]; done) | (simp [q1, q2, q3, q4, hHe]; rfl)
     · intro k hk; have h0 : k ≠ n1 := by omega
       simp [h0, hrest k hk]
    ·skip
     have h60 : rHere s clock l x = false := by simp only [cond_and] at hb; exact hb
     have hs : rRankS s clock l e c x = c := if_neg (by rw [hx, h60]; simp)
     refine awp_skip ?_
     try simp only [go_sem, seval]
     refine hK3 _ _ _ ?_
     first | clear hK3 K3 | skip
     refine awp_reg1 zs [1, 2, 4, 7, 9, 10] fun K hK => ?_
     try simp only [go_sem, seval]
     refine hK _ _ _ ?_; clear hK K
     try simp only [go_sem, seval]
     rw [hs] at hd
     refine ⟨⟨i + 1, _, by omega, ?_, ?_, ?_, by omega, ?_, ?_, ?_, hd⟩, by rw [w1 (by omega)]; simp; omega⟩
     · omega
     · omega
     · rw [w1 (by omega)]
     · first | (simp [q1, q2, q3, q4, hHn]; done) | (simp [q1, q2, q3, q4, hHn]; rfl)
     · first | (simp [q1, q2, q3, q4, hHe]; done) | (simp [q1, q2, q3, q4, hHe]; rfl)
     · intro k hk; have h0 : k ≠ n1 := by omega
       simp [h0, hrest k hk]
  ·skip
   have hge : i = l.length := by simp at hb; omega
   rw [hge, List.drop_length, List.foldl_nil] at hd
   refine awp_exit ?_
   try simp only [go_sem, seval]
   refine hK1 _ _ _ ?_
   first | clear hK1 K1 | skip
   refine awp_rq zs [8] ?_
   refine awp_ret ?_
   try simp only [go_sem, seval]
   exact ⟨_, rfl, hrest, Frz.eq (by rw [← hd]) trivial⟩
end Go.Proofs.YtijhkfhflpmajaaGreat
namespace Go.Proofs.YtijhkfhflpmajaaGreat
open Go Go.Sx Go.Rt Go.Proofs
theorem c_ref3_checked (l : List Ent) (fams : Int) (hl : l.length < 4611686018427387904) (H : Heap) (n : Nat) : Ret Tryz.prog 37 [entsAV l, .int .i64 fams] H n (.int .i64 (rChecked l fams)) H n := by
  refine acalls_of_awp Tryz.func37 rfl Tryz.ntmps37 (congrArg Array.toList Tryz.results37) (by simp) ?_
  simp only [go_sem]
  refine awp_rq zs [0, 1] ?_
  refine awp_seq_k fun K1 hK1 => ?_
  refine awp_rq zs [0, 1, 5] ?_
  refine awp_block ?_
  refine awp_loop (fun T' H' n' => ∃ (i : Nat), i ≤ l.length ∧ T' = tl [(0, .sl 7 (l.map entAV)), (1, .int .i64 fams), (5, .int .i64 i)] ∧ H' = H ∧ n' = n ∧ rChk fams (l.drop i) = rChk fams l) (fun T' _ _ => l.length - iv (T' 5)) ?_ ?_
  ·skip
   exact ⟨0, Nat.zero_le _, rfl, rfl, rfl, rfl⟩
  intro T1 H1 n1
  rintro ⟨i, hi, rfl, rfl, rfl, hd⟩
  refine awp_seq_k fun K2 hK2 => ?_
  refine awp_rq zs [0, 1, 5, 13] ?_
  refine awp_cnd (fun hb => ?_) (fun hb => ?_)
  ·skip
   have hlt : i < l.length := by simpa using hb
   rw [drop_cons l i hlt, rChk] at hd
   have hnth : nth (l.map entAV) i = entAV (l.getD i default) := nth_map entAV l i hlt
   generalize l.getD i default = x at *
   refine awp_skip ?_
   try simp only [go_sem, seval]
   refine hK2 _ _ _ ?_
   first | clear hK2 K2 | skip
   refine awp_seq_k fun K3 hK3 => ?_
   refine awp_block ?_
   refine awp_reg zs [0, 1, 5, 6] fun K hK => ?_
   try simp only [go_sem, seval, Int.toNat_natCast, hnth]
   repeat refine peel ?_
   refine callK_use Tryz.func67 rfl rfl rfl ((c_ref2_Check x _ _)) ?_
   try simp only [go_sem, seval]
   refine hK _ _ _ ?_; clear hK K
   refine awp_seq_k fun K4 hK4 => ?_
   refine awp_rq zs [0, 1, 5, 6, 22] ?_
   refine awp_cnd (fun hb => ?_) (fun hb => ?_)
   ·skip
    have h22 : checkE x ≠ 0 := by simpa using hb
    rw [if_pos h22] at hd
    have hend : checkE x = rChecked l fams := by unfold rChecked; rw [← hd, if_pos h22]
    refine awp_rq zs [4] ?_
    refine awp_ret ?_
    try simp only [go_sem, seval]
    rw [hend]
   ·skip
    have h22 : ¬ checkE x ≠ 0 := by simpa using hb
    rw [if_neg h22] at hd
    refine awp_skip ?_
    try simp only [go_sem, seval]
    refine hK4 _ _ _ ?_
    first | clear hK4 K4 | skip
    refine awp_reg zs [0, 1, 5, 34] fun K hK => ?_
    try simp only [go_sem, seval, Int.toNat_natCast, hnth]
    repeat refine peel ?_
    refine hK _ _ _ ?_; clear hK K
    refine awp_cnd (fun hb => ?_) (fun hb => ?_)
    ·skip
     have h34 : (decide (0 ≤ fams) && decide (fams ≤ x.fam)) = true := by simp only [cond_and] at hb; exact hb
     rw [if_pos h34] at hd
     have hend : (21 : Int) = rChecked l fams := by unfold rChecked; rw [← hd]; rfl
     refine awp_rq zs [4] ?_
     refine awp_ret ?_
     try simp only [go_sem, seval]
     rw [hend]
    ·skip
     have h34 : ¬ (decide (0 ≤ fams) && decide (fams ≤ x.fam)) = true := by simp only [cond_and] at hb; exact Bool.eq_false_iff.1 hb
     rw [if_neg h34] at hd
     refine awp_skip ?_
     try simp only [go_sem, seval]
     refine hK3 _ _ _ ?_
     first | clear hK3 K3 | skip
     refine awp_reg1 zs [0, 1, 5] fun K hK => ?_
     try simp only [go_sem, seval]
     refine hK _ _ _ ?_; clear hK K
     try simp only [go_sem, seval]
     refine ⟨⟨i + 1, by omega, by rw [w1 (by omega)], hd⟩, by rw [w1 (by omega)]; simp; omega⟩
  ·skip
   have hge : i = l.length := by simp at hb; omega
   rw [hge, List.drop_length, rChk] at hd
   refine awp_exit ?_
   try simp only [go_sem, seval]
   refine hK1 _ _ _ ?_
   first | clear hK1 K1 | skip
   refine awp_seq_k fun K5 hK5 => ?_
   refine awp_rq zs [0, 7] ?_
   refine awp_block ?_
   refine awp_loop (fun T' H' n' => ∃ (i : Nat), i ≤ l.length ∧ T' = tl [(0, .sl 7 (l.map entAV)), (7, .int .i64 i)] ∧ H' = H1 ∧ n' = n1 ∧ rTwice (l.take i) (l.drop i) = rTwice [] l) (fun T' _ _ => l.length - iv (T' 7)) ?_ ?_
   ·skip
    exact ⟨0, Nat.zero_le _, rfl, rfl, rfl, rfl⟩
   intro T1 H1 n1
   rintro ⟨i, hi, rfl, rfl, rfl, hd2⟩
   refine awp_seq_k fun K6 hK6 => ?_
   refine awp_rq zs [0, 7, 38] ?_
   refine awp_cnd (fun hb => ?_) (fun hb => ?_)
   ·skip
    have hlt : i < l.length := by simpa using hb
    rw [drop_cons l i hlt, rTwice] at hd2
    have htk : l.take i ++ [l.getD i default] = l.take (i + 1) := by rw [List.take_add_one]; simp [List.getD, List.getElem?_eq_getElem hlt]
    rw [htk] at hd2
    have hn1 : nth (l.map entAV) i = entAV (l.getD i default) := nth_map entAV l i hlt
    generalize l.getD i default = x at *
    refine awp_skip ?_
    try simp only [go_sem, seval]
    refine hK6 _ _ _ ?_
    first | clear hK6 K6 | skip
    refine awp_seq_k fun K7 hK7 => ?_
    refine awp_block ?_
    refine awp_rq zs [0, 7, 8] ?_
    refine awp_block ?_
    refine awp_loop (fun T' H' n' => ∃ (j : Nat), j ≤ i ∧ T' = tl [(0, .sl 7 (l.map entAV)), (7, .int .i64 i), (8, .int .i64 j)] ∧ H' = H1 ∧ n' = n1 ∧ ((l.take i).drop j).any (rClash x) = (l.take i).any (rClash x)) (fun T' _ _ => i - iv (T' 8)) ?_ ?_
    ·skip
     exact ⟨0, Nat.zero_le _, rfl, rfl, rfl, rfl⟩
    intro T1 H1 n1
    rintro ⟨j, hj, rfl, rfl, rfl, hd3⟩
    refine awp_seq_k fun K8 hK8 => ?_
    refine awp_rq zs [0, 7, 8, 43] ?_
    refine awp_cnd (fun hb => ?_) (fun hb => ?_)
    ·skip
     have hlj : j < i := by simpa using hb
     have hjl : j < (l.take i).length := by simp; omega
     rw [drop_cons _ j hjl, List.any_cons] at hd3
     have hgj : (l.take i).getD j default = l.getD j default := by simp [List.getD, hlj]
     rw [hgj] at hd3
     have hn2 : nth (l.map entAV) j = entAV (l.getD j default) := nth_map entAV l j (by omega)
     generalize l.getD j default = y at *
     refine awp_skip ?_
     try simp only [go_sem, seval]
     refine hK8 _ _ _ ?_
     first | clear hK8 K8 | skip
     refine awp_seq_k fun K9 hK9 => ?_
     refine awp_block ?_
     refine awp_drw rfl zs [0, 7, 8, 9] [.m, .m, .q, .q, .m, .m, .q, .q, .c, .q] (by kernel_rfl) (fun _ _ _ _ _ h => h) fun K hK => ?_
     try simp only [go_sem, seval, Int.toNat_natCast, hn1, hn2]
     repeat (first | (refine And.intro ?_ ?_; · first | (simp; omega)) | refine peel ?_)
     refine callQG_use Tryz.func32 rfl rfl rfl (fun _ n => (c_ref3_Same x y _ _)) ?_
     try simp only [go_sem, seval]
     repeat (first | (refine And.intro ?_ ?_; · first | (simp; omega)) | refine peel ?_)
     refine hK _ _ _ ?_; clear hK K
     refine awp_drw rfl zs [0, 7, 8, 69] [.m, .m, .q, .q, .q, .m, .m, .q, .q, .q, .q, .m, .m, .q, .q] (by kernel_rfl) (fun _ _ _ _ _ h => h) fun K hK => ?_
     try simp only [go_sem, seval, Int.toNat_natCast, hn1, hn2]
     repeat (first | (refine And.intro ?_ ?_; · first | (simp; omega)) | refine peel ?_)
     refine hK _ _ _ ?_; clear hK K
     refine awp_cnd (fun hb => ?_) (fun hb => ?_)
     ·skip
      have h69 : rClash x y = true := by simp only [cond_and] at hb; exact hb
      rw [h69, Bool.true_or] at hd3
      rw [← hd3, Bool.true_or] at hd2
      have hend : (31 : Int) = rChecked l fams := by unfold rChecked; rw [← hd, ← hd2]; rfl
      refine awp_rq zs [4] ?_
      refine awp_ret ?_
      try simp only [go_sem, seval]
      rw [hend]
     ·skip
      have h69 : rClash x y = false := by simp only [cond_and] at hb; exact hb
      rw [h69, Bool.false_or] at hd3
      refine awp_skip ?_
      try simp only [go_sem, seval]
      refine hK9 _ _ _ ?_
      first | clear hK9 K9 | skip
      refine awp_reg1 zs [0, 7, 8] fun K hK => ?_
      try simp only [go_sem, seval]
      refine hK _ _ _ ?_; clear hK K
      try simp only [go_sem, seval]
      refine ⟨⟨j + 1, by omega, by rw [w1 (by omega)], hd3⟩, by rw [w1 (by omega)]; simp; omega⟩
    ·skip
     have hge2 : j = i := by simp at hb; omega
     rw [hge2, List.drop_eq_nil_of_le (by simp; omega), List.any_nil] at hd3
     rw [← hd3, Bool.false_or] at hd2
     refine awp_exit ?_
     try simp only [go_sem, seval]
     refine hK7 _ _ _ ?_
     first | clear hK7 K7 | skip
     refine awp_reg1 zs [0, 7] fun K hK => ?_
     try simp only [go_sem, seval]
     refine hK _ _ _ ?_; clear hK K
     try simp only [go_sem, seval]
     refine ⟨⟨i + 1, by omega, by rw [w1 (by omega)], hd2⟩, by rw [w1 (by omega)]; simp; omega⟩
   ·skip
    have hge : i = l.length := by simp at hb; omega
    rw [hge, List.drop_length, rTwice] at hd2
    have hend : (0 : Int) = rChecked l fams := by unfold rChecked; rw [← hd, ← hd2]; rfl
    refine awp_exit ?_
    try simp only [go_sem, seval]
    refine hK5 _ _ _ ?_
    first | clear hK5 K5 | skip
    refine awp_rq zs [4] ?_
    refine awp_ret ?_
    try simp only [go_sem, seval]
    rw [hend]
theorem rIns_len (m : List Ent) (e : Ent) : (rIns m e).length ≤ m.length + 1 := by
  unfold rIns
  have := rAt_le e m
  split
  · omega
  · simp; omega
theorem rIns_mem {m : List Ent} {e x : Ent} (h : x ∈ rIns m e) : x ∈ m ∨ x = e := by
  unfold rIns at h
  split at h
  · exact .inl h
  · rcases List.mem_append.1 h with h | h
    · exact .inl (List.mem_of_mem_take h)
    · rcases List.mem_cons.1 h with h | h
      · exact .inr h
      · exact .inl (List.mem_of_mem_drop h)
theorem ins_els (m : List Ent) (a : Nat) (e : Ent) (ha : a ≤ m.length) : List.take (min a m.length + 1) (List.take (min a m.length) (List.take a (m.map entAV)) ++ [entAV e]) ++ List.drop a (List.take m.length (m.map entAV)) = (m.take a ++ (e :: m.drop a)).map entAV := by
  have h1 : min a m.length = a := by omega
  have h2 : (List.take a (m.map entAV)).length = a := by simp; omega
  rw [h1, List.take_of_length_le (l := m.map entAV) (i := m.length) (by simp), List.take_of_length_le (l := List.take a (m.map entAV)) (i := a) (by omega), List.take_of_length_le (i := a + 1) (by simp; omega)]
  simp
theorem c_ref3_ordered (l : List Ent) (hl : l.length ≤ 1000000000) (hf : ∀ e ∈ l, e.fits) (H : Heap) (n : Nat) : Ret Tryz.prog 38 [entsAV l] H n (entsAV (rOrd l)) H n := by
  refine Ret.fin ?_
  refine acalls_of_awp Tryz.func38 rfl Tryz.ntmps38 (congrArg Array.toList Tryz.results38) (by simp) ?_
  simp only [go_sem]
  refine awp_rq zs [0] ?_
  refine awp_rq zs [0, 3] ?_
  refine awp_seq_k fun K1 hK1 => ?_
  refine awp_wk_tmp 3 (.sl 7 []) (Wk.nilsl 7) ?_
  refine awp_rq zs [0, 3, 4] ?_
  refine awp_block ?_
  refine awp_loop (fun T' H' n' => ∃ (i : Nat) (m : List Ent), i ≤ l.length ∧ m.length ≤ i ∧ (∀ x ∈ m, x.fits) ∧ T' = tl [(0, .sl 7 (l.map entAV)), (3, .sl 7 (m.map entAV)), (4, .int .i64 i)] ∧ n ≤ n' ∧ (∀ k, k < n → H' k = H k) ∧ (l.drop i).foldl rIns m = rOrd l) (fun T' _ _ => l.length - iv (T' 4)) ?_ ?_
  ·skip
   exact ⟨0, [], Nat.zero_le _, Nat.zero_le _, fun x hx => by (cases hx), rfl, Nat.le_refl _, fun k hk => rfl, rfl⟩
  intro T1 H1 n1
  rintro ⟨i, m, hi, hmi, hmf, rfl, hn, hrest, hd⟩
  refine awp_seq_k fun K2 hK2 => ?_
  refine awp_rq zs [0, 3, 4, 10] ?_
  refine awp_cnd (fun hb => ?_) (fun hb => ?_)
  ·skip
   have hlt : i < l.length := by simpa using hb
   rw [drop_cons l i hlt, List.foldl_cons] at hd
   have hnth : nth (l.map entAV) i = entAV (l.getD i default) := nth_map entAV l i hlt
   have hfe : (l.getD i default).fits := hf _ (by simp [List.getD, List.getElem?_eq_getElem hlt])
   generalize l.getD i default = e at *
   have hat : rAt e m ≤ m.length := rAt_le e m
   have hil := rIns_len m e
   refine awp_skip ?_
   try simp only [go_sem, ↓reduceIte, Nat.reduceEqDiff]
   refine hK2 _ _ _ ?_
   first | clear hK2 K2 | skip
   refine awp_seq_k fun K3 hK3 => ?_
   refine awp_block ?_
   refine awp_rq zs [0, 3, 4, 5] ?_
   refine awp_seq_k fun K4 hK4 => ?_
   refine awp_block ?_
   refine awp_loop (fun T' H' n' => ∃ (a : Nat), a ≤ m.length ∧ T' = tl [(0, .sl 7 (l.map entAV)), (3, .sl 7 (m.map entAV)), (4, .int .i64 i), (5, .int .i64 a)] ∧ H' = H1 ∧ n' = n1 ∧ a + rAt e (m.drop a) = rAt e m) (fun T' _ _ => m.length - iv (T' 5)) ?_ ?_
   ·skip
    exact ⟨0, Nat.zero_le _, rfl, rfl, rfl, by simp⟩
   intro T1 H1 n1
   rintro ⟨a, ha, rfl, rfl, rfl, hd2⟩
   refine awp_seq_k fun K5 hK5 => ?_
   refine awp_drw rfl zs [0, 3, 4, 5, 28] [.m, .m, .q, .q, .m, .m, .m, .q, .q, .m, .m, .q, .q, .c, .q, .q] (by kernel_rfl) (fun _ _ _ _ _ h => h) fun K hK => ?_
   try simp only [go_sem, ↓reduceIte, Nat.reduceEqDiff, Nat.reduceLT, Nat.reduceAdd, Int.toNat_natCast, hnth, List.length_map]
   repeat (first | (refine And.intro ?_ ?_; · first | (intro hg; simp at hg; simp; omega) | (intro hg; have hg : a < m.length := (by simpa using hg); rw [nth_map entAV m a hg]; exact ⟨rfl, by rw [entAV_sz]⟩) | (intro _; omega) | (intro hg; simp at hg ⊢; omega)) | refine peel ?_)
   refine callQG_use (args' := [nth (m.map entAV) a, entAV e]) (r := .int .i64 (compE (m.getD a default) e)) Tryz.func68 rfl rfl (by rfl) (fun hg n => by rw [nth_map entAV m a (by simpa using hg)]; exact c_ref2_Compare _ _ (hmf _ (by rw [List.getD, List.getElem?_eq_getElem (show a < m.length by simpa using hg)]; exact List.getElem_mem _)) _ _) ?_
   try simp only [go_sem]
   repeat (first | (refine And.intro ?_ ?_; · first | (intro hg; simp at hg; simp; omega) | (intro hg; have hg : a < m.length := (by simpa using hg); rw [nth_map entAV m a hg]; exact ⟨rfl, by rw [entAV_sz]⟩) | (intro _; omega) | (intro hg; simp at hg ⊢; omega)) | refine peel ?_)
   refine hK _ _ _ ?_; clear hK K
   refine awp_cnd (fun hb => ?_) (fun hb => ?_)
   ·skip
    simp only [cond_and, Bool.and_eq_true, decide_eq_true_eq] at hb
    have hal : a < m.length := by omega
    have hcmp : compE (m.getD a default) e < 0 := hb.2
    rw [drop_cons m a hal, rAt, if_pos hcmp] at hd2
    refine awp_skip ?_
    try simp only [go_sem, ↓reduceIte, Nat.reduceEqDiff]
    refine hK5 _ _ _ ?_
    first | clear hK5 K5 | skip
    refine awp_block ?_
    refine awp_reg1 zs [0, 3, 4, 5] fun K hK => ?_
    try simp only [go_sem, ↓reduceIte, Nat.reduceEqDiff, Nat.reduceLT]
    refine hK _ _ _ ?_; clear hK K
    try simp only [go_sem, ↓reduceIte, Nat.reduceEqDiff]
    refine ⟨⟨a + 1, by omega, by rw [w1 (by omega)], by omega⟩, by rw [w1 (by omega)]; simp; omega⟩
   ·skip
    simp only [cond_and, Bool.and_eq_false_iff, decide_eq_false_iff_not] at hb
    have hae : a = rAt e m := by
      rcases Nat.lt_or_ge a m.length with hal | hal
      · have hcmp : ¬ compE (m.getD a default) e < 0 := hb.elim (fun h => absurd (by omega) h) id
        rw [drop_cons m a hal, rAt, if_neg hcmp] at hd2; omega
      · rw [List.drop_eq_nil_of_le hal, rAt] at hd2; omega
    refine awp_exit ?_
    try simp only [go_sem, ↓reduceIte, Nat.reduceEqDiff]
    refine hK4 _ _ _ ?_
    first | clear hK4 K4 | skip
    refine awp_seq_k fun K6 hK6 => ?_
    refine awp_drw rfl zs [0, 3, 4, 5, 46] [.m, .m, .q, .q, .m, .m, .m, .q, .q, .m, .m, .q, .q, .c, .q, .q] (by kernel_rfl) (fun _ _ _ _ _ h => h) fun K hK => ?_
    try simp only [go_sem, ↓reduceIte, Nat.reduceEqDiff, Nat.reduceLT, Nat.reduceAdd, Int.toNat_natCast, hnth, List.length_map]
    repeat (first | (refine And.intro ?_ ?_; · first | (intro hg; simp at hg; simp; omega) | (intro hg; have hg : a < m.length := (by simpa using hg); rw [nth_map entAV m a hg]; exact ⟨rfl, by rw [entAV_sz]⟩) | (intro _; omega) | (intro hg; simp at hg ⊢; omega)) | refine peel ?_)
    refine callQG_use (args' := [nth (m.map entAV) a, entAV e]) (r := .int .i64 (compE (m.getD a default) e)) Tryz.func68 rfl rfl (by rfl) (fun hg n => by rw [nth_map entAV m a (by simpa using hg)]; exact c_ref2_Compare _ _ (hmf _ (by rw [List.getD, List.getElem?_eq_getElem (show a < m.length by simpa using hg)]; exact List.getElem_mem _)) _ _) ?_
    try simp only [go_sem]
    repeat (first | (refine And.intro ?_ ?_; · first | (intro hg; simp at hg; simp; omega) | (intro hg; have hg : a < m.length := (by simpa using hg); rw [nth_map entAV m a hg]; exact ⟨rfl, by rw [entAV_sz]⟩) | (intro _; omega) | (intro hg; simp at hg ⊢; omega)) | refine peel ?_)
    refine hK _ _ _ ?_; clear hK K
    refine awp_cnd (fun hb => ?_) (fun hb => ?_)
    ·skip
     simp only [cond_and, Bool.and_eq_true, decide_eq_true_eq, beq_iff_eq] at hb
     have hins : rIns m e = m := by
       unfold rIns; rw [← hae, if_pos ⟨by omega, hb.2⟩]
     refine awp_exit ?_
     try simp only [go_sem, ↓reduceIte, Nat.reduceEqDiff]
     refine hK3 _ _ _ ?_
     first | clear hK3 K3 | skip
     refine awp_reg1 zs [0, 3, 4] fun K hK => ?_
     try simp only [go_sem, ↓reduceIte, Nat.reduceEqDiff, Nat.reduceLT]
     refine hK _ _ _ ?_; clear hK K
     try simp only [go_sem, ↓reduceIte, Nat.reduceEqDiff]
     rw [hins] at hd hil
     refine ⟨⟨i + 1, _, by omega, by omega, ?_, by rw [w1 (by omega)], by omega, ?_, hd⟩, by rw [w1 (by omega)]; simp; omega⟩
     · intro x hx; rcases rIns_mem (by rw [hins]; exact hx) with h | h; (exact hmf x h); (rw [h]; exact hfe)
     · intro k hk; first | exact hrest k hk | (have h0 : k ≠ n1 := (by omega); simp [h0, hrest k hk])
    ·skip
     simp only [cond_and, Bool.and_eq_false_iff, decide_eq_false_iff_not, beq_eq_false_iff_ne] at hb
     have hins : rIns m e = m.take a ++ (e :: m.drop a) := by
       unfold rIns; rw [← hae, if_neg]
       rintro ⟨hal, h0⟩
       exact hb.elim (fun h => h (by omega)) fun h => h h0
     refine awp_skip ?_
     try simp only [go_sem, ↓reduceIte, Nat.reduceEqDiff]
     refine hK6 _ _ _ ?_
     first | clear hK6 K6 | skip
     refine awp_rq zs [0, 3, 4, 5, 6] ?_
     refine awp_adopt_tmp 6 7 rfl ?_
     refine awp_reg zs [0, 3, 4, 5, 6] fun K hK => ?_
     try simp only [go_sem, ↓reduceIte, Nat.reduceEqDiff, Nat.reduceLT, Option.getD_some, Option.getD_none, Int.toNat_zero, List.drop_zero, List.length_take, Int.toNat_natCast, List.length_map]
     repeat (first | (refine And.intro ?_ ?_; · first | (intro m9 hm9; cases hm9) | exact ⟨by omega, .inr trivial, by omega, by omega⟩ | exact ⟨by simp, .inr trivial, by simp; omega, by simp; omega⟩) | refine peel ?_)
     refine hK _ _ _ ?_; clear hK K
     refine awp_reg zs [0, 3, 4, 5, 6] fun K hK => ?_
     try simp only [go_sem, ↓reduceIte, Nat.reduceEqDiff, Nat.reduceLT, Nat.reduceAdd, Int.toNat_natCast, hnth]
     repeat (first | (refine And.intro ?_ ?_; · first | exact ⟨by omega, .inr trivial, by omega, by omega⟩ | exact ⟨rfl, by decide, by simp [AV.sz, AV.szs, AV.memOK]⟩ | exact ⟨by simp, .inr trivial, by simp; omega, by simp; omega⟩ | (simp; omega)) | refine peel ?_)
     refine callK_use Tryz.func34 rfl rfl rfl ((c_ref3_Clone e hfe _ _)) ?_
     try simp only [go_sem, ↓reduceIte, List.length_take]
     repeat (first | (refine And.intro ?_ ?_; · first | exact ⟨by omega, .inr trivial, by omega, by omega⟩ | exact ⟨rfl, by decide, by simp [AV.sz, AV.szs, AV.memOK]⟩ | exact ⟨by simp, .inr trivial, by simp; omega, by simp; omega⟩ | (simp; omega)) | refine peel ?_)
     refine hK _ _ _ ?_; clear hK K
     refine awp_reg zs [0, 4, 6] fun K hK => ?_
     try simp only [go_sem, ↓reduceIte, Nat.reduceEqDiff, Nat.reduceLT, Nat.reduceAdd, Option.getD_some, Option.getD_none, Int.toNat_natCast, List.length_map]
     repeat (first | (refine And.intro ?_ ?_; · first | exact ⟨by omega, .inr trivial, by omega, by omega⟩ | exact ⟨by simp, .inr trivial, by simp; omega, by simp; omega⟩ | (simp; omega)) | refine peel ?_)
     refine hK _ _ _ ?_; clear hK K
     refine awp_frz_tmp 6 (esz := 7) (els := (m.take a ++ (e :: m.drop a)).map entAV) rfl (by rw [Heap.put_same]; exact congrArg some (congrArg (AObj.arr 3 7) (ins_els m a e ha))) (by simp; omega) ?_
     refine awp_reg1 zs [0, 3, 4] fun K hK => ?_
     try simp only [go_sem, ↓reduceIte, Nat.reduceEqDiff, Nat.reduceLT]
     refine hK _ _ _ ?_; clear hK K
     try simp only [go_sem, ↓reduceIte, Nat.reduceEqDiff]
     refine hK3 _ _ _ ?_
     first | clear hK3 K3 | skip
     refine awp_reg1 zs [0, 3, 4] fun K hK => ?_
     try simp only [go_sem, ↓reduceIte, Nat.reduceEqDiff, Nat.reduceLT]
     refine hK _ _ _ ?_; clear hK K
     try simp only [go_sem, ↓reduceIte, Nat.reduceEqDiff]
     rw [hins] at hd hil
     refine ⟨⟨i + 1, _, by omega, by omega, ?_, by rw [w1 (by omega)], by omega, ?_, hd⟩, by rw [w1 (by omega)]; simp; omega⟩
     · intro x hx; rcases rIns_mem (by rw [hins]; exact hx) with h | h; (exact hmf x h); (rw [h]; exact hfe)
     · intro k hk; first | exact hrest k hk | (have h0 : k ≠ n1 := (by omega); simp [h0, hrest k hk])
  ·skip
   have hge : i = l.length := by simp at hb; omega
   rw [hge, List.drop_length, List.foldl_nil] at hd
   refine awp_exit ?_
   try simp only [go_sem, ↓reduceIte, Nat.reduceEqDiff]
   refine hK1 _ _ _ ?_
   first | clear hK1 K1 | skip
   refine awp_rq zs [2] ?_
   refine awp_ret ?_
   try simp only [go_sem, ↓reduceIte]
   exact ⟨_, rfl, hrest, by rw [← hd]; exact Frz.kl (kls_ents _ _)⟩
theorem c_ref3_asked (s : List Fml) (clock low t vn : Int) (l : List Ent) (hl : l.length < 4611686018427387904) (H : Heap) (n : Nat) : Ret Tryz.prog 39 [schAV s, .int .i64 clock, .int .i64 low, .int .i64 t, .int .i64 vn, entsAV l] H n (.int .i64 (rAsked s clock low t vn l)) H n := by
  refine Ret.fin ?_
  refine acalls_of_awp Tryz.func39 rfl Tryz.ntmps39 (congrArg Array.toList Tryz.results39) (by simp) ?_
  simp only [go_sem]
  refine awp_rq zs [1, 2, 3, 4, 5, 6] ?_
  refine awp_reg zs [1, 2, 3, 4, 5, 6, 13] fun K hK => ?_
  try simp only [go_sem, seval]
  refine callK_use Tryz.func69 rfl rfl rfl ((c_ref2_CheckSchema s _ _)) ?_
  try simp only [go_sem, seval]
  refine hK _ _ _ ?_; clear hK K
  refine awp_seq_k fun K1 hK1 => ?_
  refine awp_rq zs [1, 2, 3, 4, 5, 6, 13, 17] ?_
  refine awp_cnd (fun hb => ?_) (fun hb => ?_)
  ·skip
   have h17 : schemaE s ≠ 0 := by simpa using hb
   have hend : schemaE s = rAsked s clock low t vn l := by unfold rAsked; rw [if_pos h17]
   refine awp_rq zs [12] ?_
   refine awp_ret ?_
   try simp only [go_sem, seval]
   refine ⟨_, rfl, ?_, Frz.eq (by rw [hend]) trivial⟩
   intro k hk; have h0 : k ≠ n := by omega
   simp [Heap.put, h0]
  ·skip
   have h17 : ¬ schemaE s ≠ 0 := by simpa using hb
   refine awp_skip ?_
   try simp only [go_sem, seval]
   refine hK1 _ _ _ ?_
   first | clear hK1 K1 | skip
   refine awp_seq_k fun K2 hK2 => ?_
   refine awp_reg zs [5, 6, 36] fun K hK => ?_
   try simp only [go_sem, seval]
   refine callK_use Tryz.func70 rfl rfl rfl ((c_ref3_out clock _ _)) ?_
   try simp only [go_sem, seval]
   refine callG_use Tryz.func70 rfl rfl rfl (fun _ => (c_ref3_out low _ _)) ?_
   try simp only [go_sem, seval]
   repeat refine peel ?_
   refine callG_use Tryz.func70 rfl rfl rfl (fun _ => (c_ref3_out t _ _)) ?_
   try simp only [go_sem, seval]
   repeat refine peel ?_
   refine hK _ _ _ ?_; clear hK K
   refine awp_cnd (fun hb => ?_) (fun hb => ?_)
   ·skip
    have h36 : ((((tOut clock || tOut low) || tOut t) || decide (vn < 1)) || decide (16 < vn)) = true := by simp only [cond_or] at hb; exact hb
    have hend : (32 : Int) = rAsked s clock low t vn l := by unfold rAsked; rw [if_neg h17, if_pos h36]
    refine awp_rq zs [12] ?_
    refine awp_ret ?_
    try simp only [go_sem, seval]
    refine ⟨_, rfl, ?_, Frz.eq (by rw [hend]) trivial⟩
    intro k hk; have h0 : k ≠ n := by omega
    simp [Heap.put, h0]
   ·skip
    have h36 : ¬ ((((tOut clock || tOut low) || tOut t) || decide (vn < 1)) || decide (16 < vn)) = true := by simp only [cond_or] at hb; exact Bool.eq_false_iff.1 hb
    have hend : rChecked l s.length = rAsked s clock low t vn l := by unfold rAsked; rw [if_neg h17, if_neg h36]
    refine awp_skip ?_
    try simp only [go_sem, seval]
    refine hK2 _ _ _ ?_
    first | clear hK2 K2 | skip
    refine awp_reg zs [12] fun K hK => ?_
    try simp only [go_sem, seval, List.length_map]
    refine callK_use Tryz.func37 rfl rfl rfl ((c_ref3_checked l s.length hl _ _)) ?_
    try simp only [go_sem, seval]
    refine hK _ _ _ ?_; clear hK K
    refine awp_ret ?_
    try simp only [go_sem, seval]
    refine ⟨_, rfl, ?_, Frz.eq (by rw [hend]) trivial⟩
    intro k hk; have h0 : k ≠ n := by omega
    simp [Heap.put, h0]
end Go.Proofs.YtijhkfhflpmajaaGreat