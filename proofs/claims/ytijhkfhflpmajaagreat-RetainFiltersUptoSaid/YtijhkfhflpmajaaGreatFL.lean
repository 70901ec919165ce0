/- Own layer: the room that a list is lent out of: walks of what lays it. Of the program; no condition. -/
import Derived.Test.YtijhkfhflpmajaaGreatFG
import Derived.Test.YtijhkfhflpmajaaGreatFJ
import Derived.Test.YtijhkfhflpmajaaGreatFK
import Derived.Test.YtijhkfhflpmajaaGreatFM
import Derived.Test.YtijhkfhflpmajaaGreatFF
set_option linter.unusedSimpArgs false
set_option linter.unusedVariables false
namespace Go.Proofs.YtijhkfhflpmajaaGreat
open Go Go.Sx Go.Rt Go.Proofs
theorem erg_buildSlice {P : Program} {z : TypeId → AV} {N : Nat} {ops : Array Oper} {dst : Option Tmp} {ty : TypeId} {pos : String} {after : Array Edge} {j : Nat} {bb : Bool} {os : List Oper} {T : Nat → AV} {H : Heap} {n : Nat} {Q : AEx → (Nat → AV) → Heap → Nat → Prop} (t : TypeId) (k : Nat) (p : Array (Nat × Operand)) :
    erun P z N ops (⟨dst, .buildSlice t k p, ty, pos, after, some (j, bb)⟩ :: os) T H n Q = (dOK N dst ∧ contB ((gtmp ops j).bind fun t => gval (T t) bb) fun g => (g = true → contW (opW P z H n T (.buildSlice t k p)) fun r H' n' => erun P z N ops os (tput T dst r) H' n' Q) ∧ (g = false → erun P z N ops os (tput T dst (.opt false .junk)) H n Q)) := rfl
attribute [go_sem] erg_buildSlice
def marksE : List UInt8 := [91, 92, 93, 94, 95]
theorem c_ref3_Copied_own (b : List UInt8) (hb : b.length ≤ 140737488355328) (H : Heap) (n : Nat) : Ret Tryz.prog 61 [bys b] H n (.osl n 1 0 b.length) (H.put n (some (.arr 1 1 (b.map byteAV)))) (n + 1) := by
  refine acalls_of_awp Tryz.func61 rfl Tryz.ntmps61 (congrArg Array.toList Tryz.results61) (by simp) ?_
  simp only [go_sem]
  refine awp_rq zs [0] ?_
  refine awp_rq zs [0, 3] ?_
  refine awp_adopt_tmp 3 1 rfl ?_
  refine awp_reg zs [2] fun K hK => ?_
  try simp only [go_sem, seval]
  repeat (first | (refine And.intro ?_ ?_; · first | (simp; omega) | exact ⟨rfl, by simp⟩) | refine peel ?_)
  refine hK _ _ _ ?_; clear hK K
  refine awp_ret ?_
  try simp only [go_sem, seval]
  rw [List.length_map]
theorem c_law_wide (b : List UInt8) (hb : b.length ≤ 70000000000000) (H : Heap) (n : Nat) : Ret Tryz.prog 33 [bys b] H n (.osl n 2 0 (b.length + 5)) (H.put n (some (.arr 2 1 ((b ++ marksE).map byteAV)))) (n + 1) := by
  refine acalls_of_awp Tryz.func33 rfl Tryz.ntmps33 (congrArg Array.toList Tryz.results33) (by simp) ?_
  simp only [go_sem]
  refine awp_rq zs [0] ?_
  refine awp_reg zs [3] fun K hK => ?_
  try simp only [go_sem, seval]
  refine callK_use Tryz.func61 rfl rfl rfl ((c_ref3_Copied_own b (by omega) _ _)) ?_
  try simp only [go_sem, seval]
  refine hK _ _ _ ?_; clear hK K
  refine awp_reg zs [2] fun K hK => ?_
  try simp only [go_sem, seval]
  repeat (first | (refine And.intro ?_ ?_; · first | exact ⟨by simp, .inr trivial, by omega, by omega⟩) | refine peel ?_)
  refine hK _ _ _ ?_; clear hK K
  refine awp_ret ?_
  try simp only [go_sem, seval]
  rw [List.take_of_length_le (by simp), List.map_append]; rfl
def keptB (w b : List UInt8) : Bool := bif (bif ((w.length : Int) == ((b.length + 5 : Nat) : Int)) then (w.take b.length == b) else false) then w.drop b.length == marksE else false
theorem keptB_true (b : List UInt8) : keptB (b ++ marksE) b = true := by
  unfold keptB
  simp [marksE]
theorem c_law_kept (w b : List UInt8) (hw : w.length ≤ 100000000000000) (hb : b.length ≤ 100000000000000) (H : Heap) (n : Nat) : Ret Tryz.prog 53 [bys w, bys b] H n (.bool (keptB w b)) H n := by
  have hs1 : List.take b.length (List.map byteAV w) = List.map byteAV (List.take b.length w) := List.map_take.symm
  have hs2 : List.drop b.length (List.map byteAV w) = List.map byteAV (List.drop b.length w) := List.map_drop.symm
  have hs3 : List.drop b.length (List.take w.length (List.map byteAV w)) = List.map byteAV (List.drop b.length w) := by rw [List.take_of_length_le (by simp), List.map_drop]
  have hw1 : IntKind.i64.wrap ((b.length : Int) + 5) = ((b.length + 5 : Nat) : Int) := w64 (by omega) (by omega)
  refine acalls_of_awp Tryz.func53 rfl Tryz.ntmps53 (congrArg Array.toList Tryz.results53) (by simp) ?_
  simp only [go_sem]
  refine awp_rq zs [0, 1] ?_
  refine awp_rq zs [0, 1, 5] ?_
  cases hG : (bif ((w.length : Int) == ((b.length + 5 : Nat) : Int)) then (List.take b.length w == b) else false)
  ·skip
   skip
   refine awp_reg zs [4] fun K hK => ?_
   try simp only [go_sem, seval, List.length_map, Option.getD_some, Option.getD_none, Int.toNat_natCast, Int.toNat_zero, List.drop_zero, hw1, hs1, forall_const, reduceCtorEq, false_implies]
   repeat (first | (refine And.intro ?_ ?_; · first | (intro hh; simp at hh; omega) | (have h9 : w.length = b.length + 5 := (by simp at hG; omega); omega) | (intro hh; exact ⟨by omega, by omega, by simp at hh; omega, fun m hm => by cases hm⟩) | exact ⟨rfl, by simp [AV.sz, AV.memOK]⟩ | (have h9 : w.length = b.length + 5 := (by simp at hG; omega); exact ⟨by omega, by omega, by omega, fun m hm => by cases hm⟩)) | refine peel ?_)
   refine callG_use Tryz.func60 rfl rfl rfl (fun _ => (c_ref3_Alike (w.take b.length) b _ _)) ?_
   try simp only [go_sem, seval, List.length_map, Option.getD_some, Option.getD_none, Int.toNat_natCast, hG, hs3, forall_const, reduceCtorEq, false_implies, show (false == true) = false from rfl]
   repeat (first | (refine And.intro ?_ ?_; · first | (intro hh; simp at hh; omega) | (have h9 : w.length = b.length + 5 := (by simp at hG; omega); omega) | (intro hh; exact ⟨by omega, by omega, by simp at hh; omega, fun m hm => by cases hm⟩) | exact ⟨rfl, by simp [AV.sz, AV.memOK]⟩ | (have h9 : w.length = b.length + 5 := (by simp at hG; omega); exact ⟨by omega, by omega, by omega, fun m hm => by cases hm⟩)) | refine peel ?_)
   first | refine callG_use Tryz.func60 rfl rfl rfl (fun _ => (c_ref3_Alike (w.drop b.length) marksE _ _)) ?_ | (refine ⟨fun h => absurd h (by decide), fun _ => ⟨.bool true, ?_⟩⟩)
   try simp only [go_sem, seval, forall_const, reduceCtorEq, false_implies]
   repeat (first | (refine And.intro ?_ ?_; · first | (intro hh; simp at hh; omega) | (have h9 : w.length = b.length + 5 := (by simp at hG; omega); omega) | (intro hh; exact ⟨by omega, by omega, by simp at hh; omega, fun m hm => by cases hm⟩) | exact ⟨rfl, by simp [AV.sz, AV.memOK]⟩ | (have h9 : w.length = b.length + 5 := (by simp at hG; omega); exact ⟨by omega, by omega, by omega, fun m hm => by cases hm⟩)) | refine peel ?_)
   refine hK _ _ _ ?_; clear hK K
   refine awp_ret ?_
   try simp only [go_sem, seval]
   unfold keptB; rw [hG]; rfl
  ·skip
   skip
   refine awp_reg zs [4] fun K hK => ?_
   try simp only [go_sem, seval, List.length_map, Option.getD_some, Option.getD_none, Int.toNat_natCast, Int.toNat_zero, List.drop_zero, hw1, hs1, forall_const, reduceCtorEq, false_implies]
   repeat (first | (refine And.intro ?_ ?_; · first | (intro hh; simp at hh; omega) | (have h9 : w.length = b.length + 5 := (by simp at hG; omega); omega) | (intro hh; exact ⟨by omega, by omega, by simp at hh; omega, fun m hm => by cases hm⟩) | exact ⟨rfl, by simp [AV.sz, AV.memOK]⟩ | (have h9 : w.length = b.length + 5 := (by simp at hG; omega); exact ⟨by omega, by omega, by omega, fun m hm => by cases hm⟩)) | refine peel ?_)
   refine callG_use Tryz.func60 rfl rfl rfl (fun _ => (c_ref3_Alike (w.take b.length) b _ _)) ?_
   try simp only [go_sem, seval, List.length_map, Option.getD_some, Option.getD_none, Int.toNat_natCast, hG, hs3, forall_const, reduceCtorEq, false_implies, show (true == true) = true from rfl]
   repeat (first | (refine And.intro ?_ ?_; · first | (intro hh; simp at hh; omega) | (have h9 : w.length = b.length + 5 := (by simp at hG; omega); omega) | (intro hh; exact ⟨by omega, by omega, by simp at hh; omega, fun m hm => by cases hm⟩) | exact ⟨rfl, by simp [AV.sz, AV.memOK]⟩ | (have h9 : w.length = b.length + 5 := (by simp at hG; omega); exact ⟨by omega, by omega, by omega, fun m hm => by cases hm⟩)) | refine peel ?_)
   first | refine callG_use Tryz.func60 rfl rfl rfl (fun _ => (c_ref3_Alike (w.drop b.length) marksE _ _)) ?_ | (refine ⟨fun h => absurd h (by decide), fun _ => ⟨.bool true, ?_⟩⟩)
   try simp only [go_sem, seval, forall_const]
   repeat (first | (refine And.intro ?_ ?_; · first | (intro hh; simp at hh; omega) | (have h9 : w.length = b.length + 5 := (by simp at hG; omega); omega) | (intro hh; exact ⟨by omega, by omega, by simp at hh; omega, fun m hm => by cases hm⟩) | exact ⟨rfl, by simp [AV.sz, AV.memOK]⟩ | (have h9 : w.length = b.length + 5 := (by simp at hG; omega); exact ⟨by omega, by omega, by omega, fun m hm => by cases hm⟩)) | refine peel ?_)
   refine hK _ _ _ ?_; clear hK K
   refine awp_ret ?_
   try simp only [go_sem, seval]
   unfold keptB; rw [hG]; rfl
end Go.Proofs.YtijhkfhflpmajaaGreat
namespace Go.Proofs.YtijhkfhflpmajaaGreat
open Go Go.Sx Go.Rt Go.Proofs
def mkE (f : Int) : AV := .agg [.nilsl, .int .i64 f, .nilsl, .int .i64 0, .int .i64 0, .int .i64 0, .nilsl]
def lx (n i : Nat) (e : Ent) : LEnt := ⟨e, ⟨n + 3 + 4 * i, 2, (e.row ++ marksE).map byteAV⟩, ⟨n + 4 + 4 * i, 2, (e.qual ++ marksE).map byteAV⟩, ⟨n + 5 + 4 * i, 2, (e.value ++ marksE).map byteAV⟩⟩
def lxs (n : Nat) (l : List Ent) : Nat → List LEnt
  | 0 => []
  | i + 1 => lxs n l i ++ [lx n i (l.getD i default)]
def wx3 (n i : Nat) (e : Ent) : List AV := [.osl (n + 3 + 4 * i) 2 0 (e.row.length + 5), .osl (n + 4 + 4 * i) 2 0 (e.qual.length + 5), .osl (n + 5 + 4 * i) 2 0 (e.value.length + 5)]
def wx (n : Nat) (l : List Ent) : Nat → List AV
  | 0 => []
  | i + 1 => wx n l i ++ wx3 n i (l.getD i default)
theorem lxs_len (n : Nat) (l : List Ent) : ∀ i, (lxs n l i).length = i
  | 0 => rfl
  | i + 1 => by simp [lxs, lxs_len n l i]
theorem wx_len (n : Nat) (l : List Ent) : ∀ i, (wx n l i).length = 3 * i
  | 0 => rfl
  | i + 1 => by simp [wx, wx3, wx_len n l i]; omega
structure Lain (H : Heap) (n i : Nat) (e : Ent) : Prop where
  r : H (n + 3 + 4 * i) = some (.arr 2 1 ((e.row ++ marksE).map byteAV))
  q : H (n + 4 + 4 * i) = some (.arr 2 1 ((e.qual ++ marksE).map byteAV))
  v : H (n + 5 + 4 * i) = some (.arr 2 1 ((e.value ++ marksE).map byteAV))
theorem Lain.mono {H H' : Heap} {n i : Nat} {e : Ent} (h : Lain H n i e) (hH : ∀ k, n + 3 + 4 * i ≤ k → k ≤ n + 5 + 4 * i → H' k = H k) : Lain H' n i e :=
  ⟨(hH _ (by omega) (by omega)).trans h.r, (hH _ (by omega) (by omega)).trans h.q, (hH _ (by omega) (by omega)).trans h.v⟩
structure Laid (H : Heap) (n : Nat) (l : List Ent) : Prop where
  room : H n = some (.arr 0 2 [.agg [.osl (n + 1) (l.length + 1) 0 (l.length + 1), .osl (n + 2) l.length 0 (3 * l.length)]])
  ls : H (n + 1) = some (.arr (l.length + 1) 7 ((lxs n l l.length).map lentAV ++ [mkE (-9)]))
  ws : H (n + 2) = some (.arr l.length 1 (wx n l l.length))
  bs : ∀ j, j < l.length → Lain H n j (l.getD j default)
set_option maxHeartbeats 4000000 in
theorem c_law_laid (l : List Ent) (hl : l.length ≤ 100000000) (hf : ∀ e ∈ l, e.fits ∧ e.row.length ≤ 70000000000000 ∧ e.qual.length ≤ 70000000000000 ∧ e.value.length ≤ 70000000000000) (H : Heap) (n : Nat) :
    ACalls Tryz.prog 12 [entsAV l] H n fun res H' n' => res = .val (.loc n 0 0 0 []) ∧ n' = n + 3 + 4 * l.length ∧ Laid H' n l ∧ ∀ k, k < n → H' k = H k := by
  refine acalls_of_awp Tryz.func12 rfl Tryz.ntmps12 (congrArg Array.toList Tryz.results12) (by simp) ?_
  simp only [go_sem]
  refine awp_reg zs [0] fun K hK => ?_
  try simp only [go_sem, seval, Nat.add_assoc]
  refine hK _ _ _ ?_; clear hK K
  refine awp_reg zs [0, 3] fun K hK => ?_
  try simp only [go_sem, seval, Nat.add_assoc]
  refine hK _ _ _ ?_; clear hK K
  refine awp_seq_k fun K1 hK1 => ?_
  refine awp_adopt_obj n 7 (els' := [.agg [.osl (n + 1) 0 0 0, .nilsl]]) (Heap.put_same _ _ _) ⟨Adp.agg ⟨Adp.nilsl _, .refl _ _, trivial⟩, trivial⟩ ?_
  refine awp_adopt_obj n 1 (els' := [.agg [.osl (n + 1) 0 0 0, .osl (n + 2) 0 0 0]]) (Heap.put_same _ _ _) ⟨Adp.agg ⟨.refl _ _, Adp.nilsl _, trivial⟩, trivial⟩ ?_
  refine awp_reg zs [0, 3, 4] fun K hK => ?_
  try simp only [go_sem, seval, Nat.add_assoc]
  refine hK _ _ _ ?_; clear hK K
  refine awp_block ?_
  refine awp_loop (fun T' H' n' => ∃ (i : Nat), i ≤ l.length ∧ T' = tl [(0, .sl 7 (l.map entAV)), (3, .loc n 0 0 0 []), (4, .int .i64 i)] ∧ n' = n + 3 + 4 * i ∧ H' n = some (.arr 0 2 [.agg [.osl (n + 1) i 0 (lxs n l i).length, .osl (n + 2) i 0 (wx n l i).length]]) ∧ H' (n + 1) = some (.arr i 7 ((lxs n l i).map lentAV)) ∧ H' (n + 2) = some (.arr i 1 (wx n l i)) ∧ (∀ j, j < i → Lain H' n j (l.getD j default)) ∧ (∀ k, k < n → H' k = H k)) (fun T' _ _ => l.length - iv (T' 4)) ?_ ?_
  ·skip
   refine ⟨0, Nat.zero_le _, rfl, rfl, ?_, ?_, ?_, fun j hj => absurd hj (by omega), ?_⟩
   · first | (simp [Heap.put, lxs, wx]; done) | (simp [Heap.put, lxs, wx]; rfl)
   · first | (simp [Heap.put]; done) | (simp [Heap.put]; rfl)
   · first | (simp [Heap.put]; done) | (simp [Heap.put]; rfl)
   · intro k hk; have h0 : k ≠ n := by omega
     have h1 : k ≠ n + 1 := by omega
     have h2 : k ≠ n + 2 := by omega
     simp [Heap.put, h0, h1, h2]
  intro T1 H1 n1
  rintro ⟨i, hi, rfl, hn, hHn, hHl, hHw, hbs, hrest⟩
  refine awp_seq_k fun K2 hK2 => ?_
  refine awp_reg zs [0, 3, 4, 14] fun K hK => ?_
  try simp only [go_sem, seval, Nat.add_assoc]
  refine hK _ _ _ ?_; clear hK K
  refine awp_cnd (fun hb => ?_) (fun hb => ?_)
  ·skip
   have hlt : i < l.length := by simpa using hb
   have hnth : nth (l.map entAV) i = entAV (l.getD i default) := nth_map entAV l i hlt
   have hfe := hf (l.getD i default) (by simp [List.getD, List.getElem?_eq_getElem hlt])
   have hl1 : lxs n l (i + 1) = lxs n l i ++ [lx n i (l.getD i default)] := rfl
   have hw1 : wx n l (i + 1) = wx n l i ++ wx3 n i (l.getD i default) := rfl
   have hll := lxs_len n l i
   have hwl := wx_len n l i
   generalize he : l.getD i default = e at *
   obtain ⟨hfi, hfr, hfq, hfv⟩ := hfe
   have k1 : n + 3 + 4 * i = n1 := hn.symm
   have k2' : n + 4 + 4 * i = n1 + 1 := by omega
   have k3' : n + 5 + 4 * i = n1 + 2 := by omega
   have qa : ∀ k, (n = n1 + k) = False := fun k => by simp; omega
   have qb : ∀ k, (n + 1 = n1 + k) = False := fun k => by simp; omega
   have qc : ∀ k, (n + 2 = n1 + k) = False := fun k => by simp; omega
   have qd : ∀ k, (n1 + k = n) = False := fun k => by simp; omega
   have qe : ∀ k, (n1 + k = n + 1) = False := fun k => by simp; omega
   have qf : ∀ k, (n1 + k = n + 2) = False := fun k => by simp; omega
   have qa0 : (n = n1) = False := by simp; omega
   have qb0 : (n + 1 = n1) = False := by simp; omega
   have qc0 : (n + 2 = n1) = False := by simp; omega
   have qd0 : (n1 = n) = False := by simp; omega
   have qe0 : (n1 = n + 1) = False := by simp; omega
   have qf0 : (n1 = n + 2) = False := by simp; omega
   refine awp_skip ?_
   try simp only [go_sem, seval, Nat.add_assoc]
   refine hK2 _ _ _ ?_
   first | clear hK2 K2 | skip
   refine awp_seq_k fun K3 hK3 => ?_
   refine awp_block ?_
   refine awp_reg zs [0, 3, 4, 5] fun K hK => ?_
   try simp only [go_sem, seval, Nat.add_assoc, Int.toNat_natCast, hnth]
   repeat (first | (refine And.intro ?_ ?_; · first | (simp; omega)) | refine peel ?_)
   refine callK_use Tryz.func33 rfl rfl rfl ((c_law_wide e.row hfr _ _)) ?_
   try simp only [go_sem, seval]
   repeat (first | (refine And.intro ?_ ?_; · first | (simp; omega)) | refine peel ?_)
   refine hK _ _ _ ?_; clear hK K
   refine awp_reg zs [0, 3, 4, 5, 6] fun K hK => ?_
   try simp only [go_sem, seval, Nat.add_assoc, Int.toNat_natCast, hnth]
   repeat (first | (refine And.intro ?_ ?_; · first | (simp; omega)) | refine peel ?_)
   refine callK_use Tryz.func33 rfl rfl rfl ((c_law_wide e.qual hfq _ _)) ?_
   try simp only [go_sem, seval, Nat.add_assoc]
   repeat (first | (refine And.intro ?_ ?_; · first | (simp; omega)) | refine peel ?_)
   refine hK _ _ _ ?_; clear hK K
   refine awp_reg zs [0, 3, 4, 5, 6, 7] fun K hK => ?_
   try simp only [go_sem, seval, Nat.add_assoc, Int.toNat_natCast, hnth]
   repeat (first | (refine And.intro ?_ ?_; · first | (simp; omega)) | refine peel ?_)
   refine callK_use Tryz.func33 rfl rfl rfl ((c_law_wide e.value hfv _ _)) ?_
   try simp only [go_sem, seval, Nat.add_assoc]
   repeat (first | (refine And.intro ?_ ?_; · first | (simp; omega)) | refine peel ?_)
   refine hK _ _ _ ?_; clear hK K
   refine awp_reg zs [0, 3, 4, 5, 6, 7] fun K hK => ?_
   try simp only [go_sem, seval, Nat.add_assoc, hHn, hHw, qa, qc, qa0, qc0]
   repeat (first | (refine And.intro ?_ ?_; · first | exact ⟨rfl, by simp [AV.sz, AV.szs, AV.memOK]⟩ | (simp; omega) | exact ⟨by simp, .inr trivial, by simp; omega, by simp; omega⟩) | refine peel ?_)
   refine hK _ _ _ ?_; clear hK K
   refine awp_reg zs [0, 3, 4, 5, 6, 7, 8] fun K hK => ?_
   try simp only [go_sem, seval, Nat.add_assoc, Int.toNat_natCast, hnth]
   repeat (first | (refine And.intro ?_ ?_; · first | (simp; omega)) | refine peel ?_)
   refine hK _ _ _ ?_; clear hK K
   refine awp_reg zs [0, 3, 4, 6, 7, 8] fun K hK => ?_
   try simp only [go_sem, seval, Nat.add_assoc, Int.toNat_natCast, hnth, qd0, qf0, Option.getD_some, Option.getD_none, Int.toNat_zero, List.length_map]
   repeat (first | (refine And.intro ?_ ?_; · first | (intro m9 hm9; cases hm9) | (simp; omega)) | refine peel ?_)
   refine hK _ _ _ ?_; clear hK K
   refine awp_reg zs [0, 3, 4, 7, 8] fun K hK => ?_
   try simp only [go_sem, seval, Nat.add_assoc, Int.toNat_natCast, hnth, qd, qf, Option.getD_some, Option.getD_none, Int.toNat_zero, List.length_map]
   repeat (first | (refine And.intro ?_ ?_; · first | (intro m9 hm9; cases hm9) | (simp; omega)) | refine peel ?_)
   refine hK _ _ _ ?_; clear hK K
   refine awp_reg zs [0, 3, 4, 8] fun K hK => ?_
   try simp only [go_sem, seval, Nat.add_assoc, Int.toNat_natCast, hnth, qd, qf, Option.getD_some, Option.getD_none, Int.toNat_zero, List.length_map]
   repeat (first | (refine And.intro ?_ ?_; · first | (intro m9 hm9; cases hm9) | (simp; omega)) | refine peel ?_)
   refine hK _ _ _ ?_; clear hK K
   refine awp_drw1 rfl zs [0, 3, 4] [.m, .m, .q, .q, .q, .q, .q, .w [], .q, .q, .w []] (by kernel_rfl) (fun _ _ _ _ _ h => h) fun K hK => ?_
   try simp only [go_sem, seval, Nat.add_assoc, hHl, qa, qb, qb0]
   repeat (first | (refine And.intro ?_ ?_; · first | exact ⟨rfl, by simp [AV.sz, AV.szs, AV.memOK]⟩ | (simp; omega) | exact ⟨by simp, .inr trivial, by simp; omega, by simp; omega⟩) | refine peel ?_)
   refine hK _ _ _ ?_; clear hK K
   try simp only [go_sem, seval, Nat.add_assoc]
   refine hK3 _ _ _ ?_
   first | clear hK3 K3 | skip
   refine awp_reg1 zs [0, 3, 4] fun K hK => ?_
   try simp only [go_sem, seval, Nat.add_assoc]
   refine hK _ _ _ ?_; clear hK K
   try simp only [go_sem, seval, Nat.add_assoc]
   refine ⟨⟨i + 1, by omega, by rw [w1 (by omega)], by omega, ?_, ?_, ?_, ?_, ?_⟩, by rw [w1 (by omega)]; simp; omega⟩
   · rw [hl1, hw1]; simp [wx3]
   · rw [hl1, List.take_of_length_le (by simp), List.map_append]
     simp only [List.map_cons, List.map_nil, lx, lentAV, Lp.av, k1, k2', k3', Nat.sub_zero]
   · rw [if_neg (by omega), hw1, List.take_of_length_le (by simp)]
     simp only [wx3, k1, k2', k3']
   · intro j hj
     rcases Nat.lt_or_ge j i with hji | hji
     · exact (hbs j hji).mono fun k h1 h2 => by rw [Heap.put_ne _ _ (by omega), Heap.put_ne _ _ (by omega), Heap.put_ne _ _ (by omega), Heap.put_ne _ _ (by omega), Heap.put_ne _ _ (by omega), Heap.put_ne _ _ (by omega), Heap.put_ne _ _ (by omega), Heap.put_ne _ _ (by omega)]
     · obtain rfl : j = i := by omega
       rw [he]
       exact ⟨by rw [k1, Heap.put_ne _ _ (by omega), Heap.put_ne _ _ (by omega), Heap.put_ne _ _ (by omega), Heap.put_ne _ _ (by omega), Heap.put_ne _ _ (by omega), Heap.put_ne _ _ (by omega), Heap.put_ne _ _ (by omega), Heap.put_same], by rw [k2', Heap.put_ne _ _ (by omega), Heap.put_ne _ _ (by omega), Heap.put_ne _ _ (by omega), Heap.put_ne _ _ (by omega), Heap.put_ne _ _ (by omega), Heap.put_ne _ _ (by omega), Heap.put_same], by rw [k3', Heap.put_ne _ _ (by omega), Heap.put_ne _ _ (by omega), Heap.put_ne _ _ (by omega), Heap.put_ne _ _ (by omega), Heap.put_ne _ _ (by omega), Heap.put_same]⟩
   · intro k hk
     have g0 : k ≠ n := by omega
     have g1 : k ≠ n + 1 := by omega
     have g2 : k ≠ n + 2 := by omega
     have g3 : k ≠ n1 := by omega
     have g4 : k ≠ n1 + 1 := by omega
     have g5 : k ≠ n1 + 2 := by omega
     have g6 : k ≠ n1 + 3 := by omega
     simp only [g0, g1, g2, g3, g4, g5, g6, if_false]; exact hrest k hk
  ·skip
   have hge : i = l.length := by simp at hb; omega
   subst hge
   refine awp_exit ?_
   try simp only [go_sem, seval, Nat.add_assoc]
   refine hK1 _ _ _ ?_
   first | clear hK1 K1 | skip
   refine awp_reg zs [3] fun K hK => ?_
   try simp only [go_sem, seval, Nat.add_assoc, hHn, hHl]
   repeat (first | (refine And.intro ?_ ?_; · first | exact ⟨by simp, .inr trivial, by rw [lxs_len]; omega, by rw [lxs_len]; omega⟩ | exact ⟨rfl, by simp [AV.sz, AV.szs, AV.memOK]⟩ | (simp; omega) | exact ⟨by simp, .inr trivial, by simp; omega, by simp; omega⟩) | refine peel ?_)
   refine hK _ _ _ ?_; clear hK K
   refine awp_reg zs [2] fun K hK => ?_
   try simp only [go_sem, seval, Nat.add_assoc]
   refine hK _ _ _ ?_; clear hK K
   refine awp_ret ?_
   try simp only [go_sem, seval, Nat.add_assoc]
   refine ⟨by omega, ⟨?_, ?_, ?_, ?_⟩, ?_⟩
   · rw [Heap.put_same, lxs_len, wx_len]
   · rw [Heap.put_ne _ _ (by omega), Heap.put_same, List.take_of_length_le (by simp)]; rfl
   · rw [Heap.put_ne _ _ (by omega), Heap.put_ne _ _ (by omega)]; exact hHw
   · intro j hj
     exact (hbs j hj).mono fun k h1 h2 => by rw [Heap.put_ne _ _ (by omega), Heap.put_ne _ _ (by omega)]
   · intro k hk; have h0 : k ≠ n := by omega
     have h1 : k ≠ n + 1 := by omega
     simp [h0, h1, hrest k hk]
end Go.Proofs.YtijhkfhflpmajaaGreat
namespace Go.Proofs.YtijhkfhflpmajaaGreat
open Go Go.Sx Go.Rt Go.Proofs
theorem lxs_nth (n : Nat) (l : List Ent) : ∀ i, i ≤ l.length → ∀ x ∈ lxs n l i, ∃ j, j < i ∧ x = lx n j (l.getD j default)
  | 0, _, x, hx => by cases hx
  | i + 1, hi, x, hx => by
    rcases List.mem_append.1 hx with h | h
    · obtain ⟨j, hj, e⟩ := lxs_nth n l i (by omega) x h
      exact ⟨j, by omega, e⟩
    · exact ⟨i, by omega, by simpa using h⟩
theorem lxs_e (n : Nat) (l : List Ent) : ∀ i, i ≤ l.length → (lxs n l i).map (·.e) = l.take i
  | 0, _ => rfl
  | i + 1, hi => by
    rw [lxs, List.map_append, lxs_e n l i (by omega), List.take_add_one]
    simp [lx, List.getD, List.getElem?_eq_getElem (show i < l.length by omega)]
theorem lxs_all (n : Nat) (l : List Ent) : (lxs n l l.length).map (·.e) = l := by rw [lxs_e n l _ (Nat.le_refl _), List.take_length]
theorem wx_nth (n : Nat) (l : List Ent) : ∀ N i d, i < N → d < 3 → nth (wx n l N) (3 * i + d) = nth (wx3 n i (l.getD i default)) d
  | 0, i, d, h, _ => absurd h (by omega)
  | N + 1, i, d, h, hd => by
    have hl := wx_len n l N
    rw [wx]
    unfold nth
    rcases Nat.lt_or_ge i N with h9 | h9
    · have := wx_nth n l N i d h9 hd
      unfold nth at this
      rw [← this, List.getD, List.getElem?_append_left (by omega)]; rfl
    · obtain rfl : i = N := by omega
      rw [List.getD, List.getD, List.getElem?_append_right (by omega), hl]
      congr 2; omega
def lp (n : Nat) (l : List Ent) : Lp := ⟨n + 1, l.length + 1, (lxs n l l.length).map lentAV ++ [mkE (-9)]⟩
theorem Laid.ok {H : Heap} {n m : Nat} {l : List Ent} (h : Laid H n l) (hm : n + 3 + 4 * l.length ≤ m) : LList H m (lp n l) (lxs n l l.length) := by
  refine ⟨by show n + 1 < m; omega, h.ls, by show _ ≤ (_ ++ _ : List AV).length; simp [lxs_len], ?_, ?_⟩
  · show List.take (lxs n l l.length).length ((lxs n l l.length).map lentAV ++ [mkE (-9)]) = _
    rw [List.take_append_of_le_length (by simp), List.take_of_length_le (by simp)]
  · intro x hx
    obtain ⟨j, hj, rfl⟩ := lxs_nth n l l.length (Nat.le_refl _) x hx
    obtain ⟨b1, b2, b3⟩ := h.bs j hj
    refine ⟨⟨⟨b1, by simp [lx], by simp [lx]⟩, by show n + 3 + 4 * j < m; omega⟩, ⟨⟨b2, by simp [lx], by simp [lx]⟩, by show n + 4 + 4 * j < m; omega⟩, ⟨⟨b3, by simp [lx], by simp [lx]⟩, by show n + 5 + 4 * j < m; omega⟩⟩
theorem l_law_kept {H : Heap} {k : Nat} {b : List UInt8} (hk : H k = some (.arr 2 1 ((b ++ marksE).map byteAV))) (hb : b.length ≤ 70000000000000) (n : Nat) : Ret Tryz.prog 53 [.osl k 2 0 (b.length + 5), bys b] H n (.bool true) H n := by
  have h := c_law_kept (b ++ marksE) b (by simp [marksE]; omega) (by omega) (fun _ => none) 0
  rw [keptB_true] at h
  refine Ret.lend trivial (.cons ?_ (.cons (.kl (kl_bys b 0)) .nil)) h
  exact .osl hk (Nat.zero_le _) (by simp [marksE]) (by rw [List.drop_zero, List.take_of_length_le (by simp [marksE])]; exact frzL_kl _ (kls0_bytes _ 0))
structure Shp (H : Heap) (n : Nat) (l : List Ent) : Prop where
  room : H n = some (.arr 0 2 [.agg [.osl (n + 1) (l.length + 1) 0 (l.length + 1), .osl (n + 2) l.length 0 (3 * l.length)]])
  ws : H (n + 2) = some (.arr l.length 1 (wx n l l.length))
  ls : ∃ els, H (n + 1) = some (.arr (l.length + 1) 7 els) ∧ els.length = l.length + 1 ∧ ∀ x ∈ els, x.sz = 7
  bs : ∀ t, t < 3 * l.length → ∃ k els, nth (wx n l l.length) t = .osl k 2 0 els.length ∧ (n + 3 ≤ k ∧ k < n + 3 + 4 * l.length) ∧ H k = some (.arr 2 1 els) ∧ els.length ≤ 100000000000000 ∧ ∀ x ∈ els, x.sz = 1
theorem Laid.shp {H : Heap} {n : Nat} {l : List Ent} (h : Laid H n l) (hf : ∀ e ∈ l, e.row.length ≤ 70000000000000 ∧ e.qual.length ≤ 70000000000000 ∧ e.value.length ≤ 70000000000000) : Shp H n l := by
  refine ⟨h.room, h.ws, ⟨_, h.ls, by simp [lxs_len], ?_⟩, ?_⟩
  · intro x hx
    rcases List.mem_append.1 hx with hx | hx
    · obtain ⟨y, _, rfl⟩ := List.mem_map.1 hx; exact lentAV_sz y
    · rw [List.mem_singleton.1 hx]; rfl
  · intro t ht
    obtain ⟨i, d, hd, rfl⟩ : ∃ i d, d < 3 ∧ t = 3 * i + d := ⟨t / 3, t % 3, by omega, by omega⟩
    have hi : i < l.length := by omega
    obtain ⟨b1, b2, b3⟩ := h.bs i hi
    have hfi := hf (l.getD i default) (by simp [List.getD, List.getElem?_eq_getElem hi])
    rw [wx_nth n l _ i d hi hd]
    have hsz : ∀ (b : List UInt8), ∀ x ∈ (b ++ marksE).map byteAV, x.sz = 1 := fun b x hx => by obtain ⟨y, _, rfl⟩ := List.mem_map.1 hx; rfl
    rcases d with _ | _ | _ | d
    · exact ⟨_, _, by simp [wx3, nth, marksE], ⟨by omega, by omega⟩, b1, by simp only [List.length_map, List.length_append, marksE, List.length_cons, List.length_nil]; omega, hsz _⟩
    · exact ⟨_, _, by simp [wx3, nth, marksE], ⟨by omega, by omega⟩, b2, by simp only [List.length_map, List.length_append, marksE, List.length_cons, List.length_nil]; omega, hsz _⟩
    · exact ⟨_, _, by simp [wx3, nth, marksE], ⟨by omega, by omega⟩, b3, by simp only [List.length_map, List.length_append, marksE, List.length_cons, List.length_nil]; omega, hsz _⟩
    · omega
theorem Shp.put {H : Heap} {n k : Nat} {l : List Ent} (h : Shp H n l) {els els' : List AV} (hk : H k = some (.arr 2 1 els)) (hn : n + 3 ≤ k) (hl : els'.length = els.length) (hs : ∀ x ∈ els', x.sz = 1) : Shp (H.put k (some (.arr 2 1 els'))) n l := by
  obtain ⟨h1, h2, ⟨e3, h3, h4, h5⟩, h6⟩ := h
  refine ⟨(Heap.put_ne _ _ (by omega)).trans h1, (Heap.put_ne _ _ (by omega)).trans h2, ⟨e3, (Heap.put_ne _ _ (by omega)).trans h3, h4, h5⟩, fun t ht => ?_⟩
  obtain ⟨k', es, g1, g2, g3, g5, g4⟩ := h6 t ht
  by_cases hkk : k' = k
  · subst hkk
    rw [g3] at hk
    injection hk with hk
    injection hk with _ _ hk
    subst hk
    exact ⟨k', els', by rw [g1, hl], g2, Heap.put_same _ _ _, by omega, hs⟩
  · exact ⟨k', es, g1, g2, (Heap.put_ne _ _ hkk).trans g3, g5, g4⟩
theorem Shp.put1 {H : Heap} {n : Nat} {l : List Ent} (h : Shp H n l) {els' : List AV} (hl : els'.length = l.length + 1) (hs : ∀ x ∈ els', x.sz = 7) : Shp (H.put (n + 1) (some (.arr (l.length + 1) 7 els'))) n l := by
  obtain ⟨h1, h2, _, h6⟩ := h
  refine ⟨(Heap.put_ne _ _ (by omega)).trans h1, (Heap.put_ne _ _ (by omega)).trans h2, ⟨els', Heap.put_same _ _ _, hl, hs⟩, fun t ht => ?_⟩
  obtain ⟨k', es, g1, g2, g3, g5, g4⟩ := h6 t ht
  exact ⟨k', es, g1, g2, (Heap.put_ne _ _ (by omega)).trans g3, g5, g4⟩
theorem sz_set {els : List AV} {e i : Nat} {v : AV} (h : ∀ x ∈ els, x.sz = e) (hv : v.sz = e) : ∀ x ∈ els.set i v, x.sz = e := fun x hx => by
  rcases List.mem_or_eq_of_mem_set hx with h9 | h9
  · exact h x h9
  · rw [h9]; exact hv
theorem nth_mem {els : List AV} {i : Nat} (h : i < els.length) : nth els i ∈ els := by
  simp [nth, List.getD, List.getElem?_eq_getElem h]
def olen : AV → Nat
  | .osl _ _ _ len => len
  | _ => 0
set_option maxRecDepth 100000 in
set_option maxHeartbeats 4000000 in
theorem c_law_stands2 (l : List Ent) (hl : l.length ≤ 100000000) (hf : ∀ e ∈ l, e.row.length ≤ 70000000000000 ∧ e.qual.length ≤ 70000000000000 ∧ e.value.length ≤ 70000000000000) (H : Heap) (n n0 : Nat) (hn0 : n0 + 3 + 4 * l.length ≤ n) (hL : Laid H n0 l) :
    ACalls Tryz.prog 59 [.loc n0 0 0 0 [], entsAV l] H n fun res H' n' => res = .val (.bool true) ∧ n' = n ∧ ∀ k, k < n0 ∨ n0 + 3 + 4 * l.length ≤ k → H' k = H k := by
  have hroom := hL.room
  have hls := hL.ls
  have hws := hL.ws
  have hwr : IntKind.i64.wrap ((l.length : Int) + 1) = ((l.length + 1 : Nat) : Int) := w1 (by omega)
  have hnl : nth ((lxs n0 l l.length).map lentAV ++ [mkE (-9)]) l.length = mkE (-9) := by
    unfold nth; rw [List.getD, List.getElem?_append_right (by simp [lxs_len])]; simp [lxs_len]
  simp only [mkE] at hnl
  have hsame : ∀ m, n0 + 3 + 4 * l.length ≤ m → Ret Tryz.prog 17 [(lp n0 l).av l.length, entsAV l] H m (.bool true) H m := fun m hm => by
    have h := c_ref3_SameAll ((lxs n0 l l.length).map (·.e)) l (by rw [lxs_all]; omega) (fun _ => none) 0
    rw [show decide ((lxs n0 l l.length).map (·.e) = l) = true by rw [lxs_all]; simp] at h
    have hfz := (hL.ok hm).frz
    rw [lxs_len] at hfz
    exact Ret.lend trivial (.cons hfz (.cons (.kl (kls_ents l 0)) .nil)) h
  simp only [lp, Lp.av] at hsame
  refine acalls_of_awp Tryz.func59 rfl Tryz.ntmps59 (congrArg Array.toList Tryz.results59) (by simp) ?_
  simp only [go_sem]
  refine awp_rq zs [0, 1] ?_
  refine awp_rq zs [0, 1, 5] ?_
  refine awp_seq_k fun K1 hK1 => ?_
  refine awp_reg zs [0, 1, 5, 41] fun K hK => ?_
  try simp only [go_sem, ↓reduceIte, Nat.reduceEqDiff, Nat.reduceLT, Nat.reduceAdd, List.length_map, Option.getD_some, Option.getD_none, Int.toNat_natCast, Int.toNat_zero, Nat.sub_zero, hroom, hls, hwr, hnl, bne_self_eq_false, mkE, show (false == false) = true from rfl, forall_const]
  repeat (first | (refine And.intro ?_ ?_; · first | (simp [lxs_len]; done) | exact ⟨by omega, by omega, by omega, fun m hm => by cases hm⟩) | refine peel ?_)
  refine callG_use Tryz.func17 rfl rfl rfl (fun _ => (hsame _ hn0)) ?_
  try simp only [go_sem, forall_const]
  repeat (first | (refine And.intro ?_ ?_; · first | (simp [lxs_len]; done) | exact ⟨by omega, by omega, by omega, fun m hm => by cases hm⟩) | refine peel ?_)
  refine hK _ _ _ ?_; clear hK K
  refine awp_cnd (fun hb => ?_) (fun hb => ?_)
  ·skip
   exact absurd hb (by simp)
   --dead
  ·skip
   refine awp_skip ?_
   try simp only [go_sem]
   refine hK1 _ _ _ ?_
   first | clear hK1 K1 | skip
   refine awp_seq_k fun K2 hK2 => ?_
   refine awp_rq zs [0, 1, 5, 6] ?_
   refine awp_block ?_
   refine awp_loop (fun T' H' n' => ∃ (i : Nat), i ≤ l.length ∧ T' = tl [(0, .loc n0 0 0 0 []), (1, .sl 7 (l.map entAV)), (5, .int .i64 l.length), (6, .int .i64 i)] ∧ H = H' ∧ n = n') (fun T' _ _ => l.length - iv (T' 6)) ?_ ?_
   ·skip
    exact ⟨0, Nat.zero_le _, rfl, rfl, rfl⟩
   intro T1 H1 n1
   rintro ⟨i, hi, rfl, rfl, rfl⟩
   refine awp_seq_k fun K3 hK3 => ?_
   refine awp_rq zs [0, 1, 5, 6, 44] ?_
   refine awp_cnd (fun hb => ?_) (fun hb => ?_)
   ·skip
    have hlt : i < l.length := by simpa using hb
    have hnth : nth (l.map entAV) i = entAV (l.getD i default) := nth_map entAV l i hlt
    have hwi : IntKind.i64.wrap (3 * (i : Int)) = ((3 * i : Nat) : Int) := by rw [w64 (by omega) (by omega)]; omega
    have hwi1 : IntKind.i64.wrap (((3 * i : Nat) : Int) + 1) = ((3 * i + 1 : Nat) : Int) := w1 (by omega)
    have hwi2 : IntKind.i64.wrap (((3 * i : Nat) : Int) + 2) = ((3 * i + 2 : Nat) : Int) := by rw [w64 (by omega) (by omega)]; omega
    have hw0 : nth (wx n0 l l.length) (3 * i) = _ := wx_nth n0 l l.length i 0 hlt (by decide)
    have hw1' := wx_nth n0 l l.length i 1 hlt (by decide)
    have hw2' := wx_nth n0 l l.length i 2 hlt (by decide)
    have hwl := wx_len n0 l l.length
    have hbi := hL.bs i hlt
    have hfi := hf (l.getD i default) (by simp [List.getD, List.getElem?_eq_getElem hlt])
    generalize l.getD i default = e at *
    simp only [wx3, nth, List.getD_cons_zero, List.getD_cons_succ] at hw0 hw1' hw2'
    change nth (wx n0 l l.length) (3 * i) = _ at hw0
    change nth (wx n0 l l.length) (3 * i + 1) = _ at hw1'
    change nth (wx n0 l l.length) (3 * i + 2) = _ at hw2'
    refine awp_skip ?_
    try simp only [go_sem, ↓reduceIte, Nat.reduceEqDiff]
    refine hK3 _ _ _ ?_
    first | clear hK3 K3 | skip
    refine awp_seq_k fun K4 hK4 => ?_
    refine awp_block ?_
    refine awp_drw rfl zs [0, 1, 5, 6, 97] [.m, .q, .q, .q, .m, .q, .q, .q, .m, .m, .q, .q, .q, .c, .q, .m, .m, .q, .q, .q, .m, .q, .q, .q, .q, .m, .m, .q, .q, .q, .c, .q, .q, .m, .m, .q, .q, .q, .m, .q, .q, .q, .q, .m, .m, .q, .q, .q, .c, .q, .q] (by kernel_rfl) (fun _ _ _ _ _ h => h) fun K hK => ?_
    try simp only [go_sem, ↓reduceIte, Nat.reduceEqDiff, Nat.reduceLT, Nat.reduceAdd, Int.toNat_natCast, hnth, hroom, hws, hwi, hw0, List.length_map, AV.isAgg, AV.sz]
    repeat (first | (refine And.intro ?_ ?_; · first | (intro _; first | omega | (exact ⟨by omega, by simp; omega⟩)) | (simp; omega) | (exact ⟨by omega, by simp; omega⟩)) | refine peel ?_)
    refine callQG_use Tryz.func53 rfl rfl rfl (fun _ n => (l_law_kept hbi.r hfi.1 _)) ?_
    try simp only [go_sem, Nat.reduceEqDiff, Nat.reduceLT, Nat.reduceAdd, Int.toNat_natCast, hnth, hroom, hws, hwi, hwi1, hw1', show (false == false) = true from rfl, show (!true) = false from rfl, Bool.or_true, forall_const, List.length_map, AV.isAgg, AV.sz]
    repeat (first | (refine And.intro ?_ ?_; · first | (intro _; first | omega | (exact ⟨by omega, by simp; omega⟩)) | (simp; omega) | (exact ⟨by omega, by simp; omega⟩)) | refine peel ?_)
    refine callQG_use Tryz.func53 rfl rfl rfl (fun _ n => (l_law_kept hbi.q hfi.2.1 _)) ?_
    try simp only [go_sem, Nat.reduceEqDiff, Nat.reduceLT, Nat.reduceAdd, Int.toNat_natCast, hnth, hroom, hws, hwi, hwi2, hw2', show (false == false) = true from rfl, show (!true) = false from rfl, Bool.or_true, forall_const, List.length_map, AV.isAgg, AV.sz]
    repeat (first | (refine And.intro ?_ ?_; · first | (intro _; first | omega | (exact ⟨by omega, by simp; omega⟩)) | (simp; omega) | (exact ⟨by omega, by simp; omega⟩)) | refine peel ?_)
    refine callQG_use Tryz.func53 rfl rfl rfl (fun _ n => (l_law_kept hbi.v hfi.2.2 _)) ?_
    try simp only [go_sem, show (!true) = false from rfl, forall_const]
    repeat (first | (refine And.intro ?_ ?_; · first | (intro _; first | omega | (exact ⟨by omega, by simp; omega⟩)) | (simp; omega) | (exact ⟨by omega, by simp; omega⟩)) | refine peel ?_)
    refine hK _ _ _ ?_; clear hK K
    refine awp_cnd (fun hb => ?_) (fun hb => ?_)
    ·skip
     exact absurd hb (by simp)
     --dead
    ·skip
     refine awp_skip ?_
     try simp only [go_sem, ↓reduceIte, Nat.reduceEqDiff]
     refine hK4 _ _ _ ?_
     first | clear hK4 K4 | skip
     refine awp_reg1 zs [0, 1, 5, 6] fun K hK => ?_
     try simp only [go_sem, ↓reduceIte, Nat.reduceEqDiff, Nat.reduceLT]
     refine hK _ _ _ ?_; clear hK K
     try simp only [go_sem, ↓reduceIte, Nat.reduceEqDiff]
     exact ⟨⟨i + 1, by omega, by rw [w1 (by omega)]⟩, by rw [w1 (by omega)]; simp; omega⟩
   ·skip
    skip
    refine awp_exit ?_
    try simp only [go_sem, ↓reduceIte, Nat.reduceEqDiff]
    refine hK2 _ _ _ ?_
    first | clear hK2 K2 | skip
    refine awp_seq_k fun K5 hK5 => ?_
    refine awp_rq zs [0, 5, 7] ?_
    refine awp_block ?_
    refine awp_loop (fun T' H' n' => ∃ (t : Nat), t ≤ 3 * l.length ∧ T' = tl [(0, .loc n0 0 0 0 []), (5, .int .i64 l.length), (7, .int .i64 t)] ∧ n = n' ∧ Shp H' n0 l ∧ ∀ k, k < n0 ∨ n0 + 3 + 4 * l.length ≤ k → H' k = H k) (fun T' _ _ => 3 * l.length - iv (T' 7)) ?_ ?_
    ·skip
     exact ⟨0, Nat.zero_le _, rfl, rfl, hL.shp hf, fun k hk => rfl⟩
    intro T1 H1 n1
    rintro ⟨t, ht, rfl, rfl, hS, hrest⟩
    have hroom1 := hS.room
    refine awp_seq_k fun K6 hK6 => ?_
    refine awp_reg zs [0, 5, 7, 104] fun K hK => ?_
    try simp only [go_sem, ↓reduceIte, Nat.reduceEqDiff, Nat.reduceLT, hroom1]
    refine hK _ _ _ ?_; clear hK K
    refine awp_cnd (fun hb => ?_) (fun hb => ?_)
    ·skip
     have hlt : t < 3 * l.length := by simp at hb; omega
     refine awp_skip ?_
     try simp only [go_sem, ↓reduceIte, Nat.reduceEqDiff]
     refine hK6 _ _ _ ?_
     first | clear hK6 K6 | skip
     refine awp_seq_k fun K7 hK7 => ?_
     refine awp_block ?_
     refine awp_rq zs [0, 5, 7, 8] ?_
     refine awp_block ?_
     refine awp_loop (fun T' H' n' => ∃ (j : Nat) (k : Nat) (els : List AV), j ≤ els.length ∧ nth (wx n0 l l.length) t = .osl k 2 0 els.length ∧ (n0 + 3 ≤ k ∧ k < n0 + 3 + 4 * l.length) ∧ H' k = some (.arr 2 1 els) ∧ els.length ≤ 100000000000000 ∧ (∀ x ∈ els, x.sz = 1) ∧ T' = tl [(0, .loc n0 0 0 0 []), (5, .int .i64 l.length), (7, .int .i64 t), (8, .int .i64 j)] ∧ n = n' ∧ Shp H' n0 l ∧ ∀ k, k < n0 ∨ n0 + 3 + 4 * l.length ≤ k → H' k = H k) (fun T' _ _ => olen (nth (wx n0 l l.length) t) - iv (T' 8)) ?_ ?_
     ·skip
      obtain ⟨k, els, g1, g2, g3, g5, g4⟩ := hS.bs t hlt
      exact ⟨0, k, els, Nat.zero_le _, g1, g2, g3, g5, g4, rfl, rfl, hS, hrest⟩
     intro T1 H1 n1
     rintro ⟨j, k, els, hj, hnt, hk3, hHk, hle, hsz, rfl, rfl, hS, hrest⟩
     have hroom2 := hS.room
     have hws2 := hS.ws
     have hwl := wx_len n0 l l.length
     refine awp_seq_k fun K8 hK8 => ?_
     refine awp_reg zs [0, 5, 7, 8, 116] fun K hK => ?_
     try simp only [go_sem, ↓reduceIte, Nat.reduceEqDiff, Nat.reduceLT, hroom2, hws2, Int.toNat_natCast, hnt, AV.isAgg, AV.sz]
     repeat (first | (refine And.intro ?_ ?_; · first | (simp; omega) | (exact ⟨by omega, by simp; omega⟩)) | refine peel ?_)
     refine hK _ _ _ ?_; clear hK K
     refine awp_cnd (fun hb => ?_) (fun hb => ?_)
     ·skip
      have hltj : j < els.length := by simpa using hb
      refine awp_skip ?_
      try simp only [go_sem, ↓reduceIte, Nat.reduceEqDiff]
      refine hK8 _ _ _ ?_
      first | clear hK8 K8 | skip
      refine awp_seq_k fun K9 hK9 => ?_
      refine awp_block ?_
      refine awp_reg1 zs [0, 5, 7, 8] fun K hK => ?_
      try simp only [go_sem, ↓reduceIte, Nat.reduceEqDiff, Nat.reduceLT, hroom2, hws2, Int.toNat_natCast, hnt, hHk, AV.isAgg, AV.sz]
      repeat (first | (refine And.intro ?_ ?_; · first | exact ⟨hltj, hsz _ (nth_mem hltj)⟩ | (simp; omega) | (exact ⟨by omega, by simp; omega⟩)) | refine peel ?_)
      refine hK _ _ _ ?_; clear hK K
      try simp only [go_sem, ↓reduceIte, Nat.reduceEqDiff]
      refine hK9 _ _ _ ?_
      first | clear hK9 K9 | skip
      refine awp_reg1 zs [0, 5, 7, 8] fun K hK => ?_
      try simp only [go_sem, ↓reduceIte, Nat.reduceEqDiff, Nat.reduceLT]
      refine hK _ _ _ ?_; clear hK K
      try simp only [go_sem, ↓reduceIte, Nat.reduceEqDiff]
      refine ⟨⟨j + 1, k, els.set j (.int .u8 66), by simp; omega, by simpa using hnt, hk3, by simp, by simpa using hle, sz_set hsz rfl, by rw [w1 (by omega)], hS.put hHk hk3.1 (by simp) (sz_set hsz rfl), ?_⟩, by rw [w1 (by omega)]; simp [hnt, olen]; omega⟩
      intro k' hk'; have h0 : k' ≠ k := by omega
      simp only [h0, if_false]; exact hrest k' hk'
     ·skip
      have hge2 : j = els.length := by simp at hb; omega
      refine awp_exit ?_
      try simp only [go_sem, ↓reduceIte, Nat.reduceEqDiff]
      refine hK7 _ _ _ ?_
      first | clear hK7 K7 | skip
      refine awp_reg1 zs [0, 5, 7] fun K hK => ?_
      try simp only [go_sem, ↓reduceIte, Nat.reduceEqDiff, Nat.reduceLT]
      refine hK _ _ _ ?_; clear hK K
      try simp only [go_sem, ↓reduceIte, Nat.reduceEqDiff]
      exact ⟨⟨t + 1, by omega, by rw [w1 (by omega)], hS, hrest⟩, by rw [w1 (by omega)]; simp; omega⟩
    ·skip
     skip
     refine awp_exit ?_
     try simp only [go_sem, ↓reduceIte, Nat.reduceEqDiff]
     refine hK5 _ _ _ ?_
     first | clear hK5 K5 | skip
     refine awp_seq_k fun K10 hK10 => ?_
     refine awp_rq zs [0, 5, 9] ?_
     refine awp_block ?_
     refine awp_loop (fun T' H' n' => ∃ (i : Nat), i ≤ l.length ∧ T' = tl [(0, .loc n0 0 0 0 []), (5, .int .i64 l.length), (9, .int .i64 i)] ∧ n = n' ∧ Shp H' n0 l ∧ ∀ k, k < n0 ∨ n0 + 3 + 4 * l.length ≤ k → H' k = H k) (fun T' _ _ => l.length - iv (T' 9)) ?_ ?_
     ·skip
      exact ⟨0, Nat.zero_le _, rfl, rfl, hS, hrest⟩
     intro T1 H1 n1
     rintro ⟨i, hi, rfl, rfl, hS, hrest⟩
     have hroom3 := hS.room
     obtain ⟨els3, hls3, hel3, hsz3⟩ := hS.ls
     refine awp_seq_k fun K11 hK11 => ?_
     refine awp_rq zs [0, 5, 9, 130] ?_
     refine awp_cnd (fun hb => ?_) (fun hb => ?_)
     ·skip
      have hlt3 : i < l.length := by simpa using hb
      refine awp_skip ?_
      try simp only [go_sem, ↓reduceIte, Nat.reduceEqDiff]
      refine hK11 _ _ _ ?_
      first | clear hK11 K11 | skip
      refine awp_seq_k fun K12 hK12 => ?_
      refine awp_block ?_
      refine awp_reg1 zs [0, 5, 9] fun K hK => ?_
      try simp only [go_sem, ↓reduceIte, Nat.reduceEqDiff, Nat.reduceLT, Nat.reduceAdd, hroom3, hls3, Int.toNat_natCast, AV.isAgg, AV.sz]
      repeat (first | (refine And.intro ?_ ?_; · first | exact ⟨by omega, hsz3 _ (nth_mem (by omega))⟩ | exact ⟨by omega, (hsz3 _ (nth_mem (by omega))).trans rfl⟩ | (simp; omega)) | refine peel ?_)
      refine hK _ _ _ ?_; clear hK K
      try simp only [go_sem, ↓reduceIte, Nat.reduceEqDiff]
      refine hK12 _ _ _ ?_
      first | clear hK12 K12 | skip
      refine awp_reg1 zs [0, 5, 9] fun K hK => ?_
      try simp only [go_sem, ↓reduceIte, Nat.reduceEqDiff, Nat.reduceLT]
      refine hK _ _ _ ?_; clear hK K
      try simp only [go_sem, ↓reduceIte, Nat.reduceEqDiff]
      refine ⟨⟨i + 1, by omega, by rw [w1 (by omega)], hS.put1 (by simp; omega) (sz_set hsz3 rfl), ?_⟩, by rw [w1 (by omega)]; simp; omega⟩
      intro k' hk'; have h0 : k' ≠ n0 + 1 := by omega
      simp only [h0, if_false]; exact hrest k' hk'
     ·skip
      refine awp_exit ?_
      try simp only [go_sem, ↓reduceIte, Nat.reduceEqDiff]
      refine hK10 _ _ _ ?_
      first | clear hK10 K10 | skip
      refine awp_rq zs [4] ?_
      refine awp_ret ?_
      try simp only [go_sem, ↓reduceIte]
      exact hrest
end Go.Proofs.YtijhkfhflpmajaaGreat
namespace Go.Proofs.YtijhkfhflpmajaaGreat
open Go Go.Sx Go.Rt Go.Proofs
theorem bads_zero {s : List Fml} : ∀ {l : List Ent}, (∀ e ∈ l, checkedE s e = 0) → badsE s l = 0
  | [], _ => rfl
  | e :: l, h => by rw [badsE, if_neg (by rw [h e (by simp)]; decide)]; exact bads_zero fun x hx => h x (by simp [hx])
theorem ddE_some : ∀ (l acc : List Ent), (∀ x ∈ acc ++ l, ∀ y ∈ acc ++ l, x.seq = y.seq → x = y) → ∃ d, ddE acc l = some d
  | [], acc, _ => ⟨acc, rfl⟩
  | e :: l, acc, h => by
    rw [ddE]
    cases hs : seqOf acc e.seq with
    | some x =>
      obtain ⟨h1, h2⟩ := seqOf_some hs
      have hxe : x = e := h x (by simp [h1]) e (by simp) h2
      show ∃ d, (if x = e then ddE acc l else none) = some d
      rw [if_pos hxe]
      exact ddE_some l acc fun a ha b hb => h a (by rcases List.mem_append.1 ha with g | g <;> simp [g]) b (by rcases List.mem_append.1 hb with g | g <;> simp [g])
    | none => exact ddE_some l (acc ++ [e]) fun a ha b hb => h a (by simpa using ha) b (by simpa using hb)
def clashB (I : List Ent) (e : Ent) : Bool := I.dropLast.any fun x => x.seq == e.seq && !sameE x e
structure TakeI (s : List Fml) (w : Wlk) (A I : List Ent) (last : Ent) (has : Bool) : Prop where
  mem : ∀ x, x ∈ I ↔ x ∈ A
  srt : A.Pairwise fun a b => compE a b < 0
  seq : A.Pairwise fun a b => a.seq ≠ b.seq
  chk : ∀ x ∈ A, checkedE s x = 0 ∧ x.fits
  has : has = w.any
  iff : w.any = true ↔ A ≠ []
  lstA : ∀ A' e, A = A' ++ [e] → w.last = e
  lstI : ∀ I' e, I = I' ++ [e] → w.last = e
  last : w.any = true → last = w.last
  len : A.length ≤ I.length
theorem TakeI.start {s : List Fml} {w : Wlk} (h : w.any = false) (last : Ent) : TakeI s w [] [] last false where
  mem := fun x => Iff.rfl
  srt := .nil
  seq := .nil
  chk := fun x hx => by cases hx
  has := h.symm
  iff := by rw [h]; simp
  lstA := fun A' e he => by simp at he
  lstI := fun A' e he => by simp at he
  last := fun h' => by rw [h] at h'; cases h'
  len := Nat.le_refl _
theorem TakeI.inj {s : List Fml} {w : Wlk} {A I : List Ent} {last : Ent} {has : Bool} (h : TakeI s w A I last has) : ∀ x ∈ A, ∀ y ∈ A, x.seq = y.seq → x = y := by
  have : ∀ {l : List Ent}, (l.Pairwise fun a b => a.seq ≠ b.seq) → ∀ x ∈ l, ∀ y ∈ l, x.seq = y.seq → x = y := by
    intro l
    induction l with
    | nil => intro _ x hx; cases hx
    | cons a l ih =>
      intro hp x hx y hy he
      obtain ⟨h1, h2⟩ := List.pairwise_cons.1 hp
      rcases List.mem_cons.1 hx with ex | hx <;> rcases List.mem_cons.1 hy with ey | hy
      · rw [ex, ey]
      · rw [ex] at he; exact absurd he (h1 y hy)
      · rw [ey] at he; exact absurd he.symm (h1 x hx)
      · exact ih h2 x hx y hy he
  exact this h.seq
theorem TakeI.prep {s : List Fml} {w : Wlk} {A I : List Ent} {last : Ent} {has : Bool} (h : TakeI s w A I last has) {clock : Int} {times : List Int} {k : Int} (hb : boundsE s clock times k = 0) : prepE s clock times k I = (A, 0) := by
  unfold prepE
  rw [if_neg (by rw [hb]; decide), if_neg (by rw [bads_zero fun e he => (h.chk e ((h.mem e).1 he)).1]; decide)]
  obtain ⟨d, hd⟩ := ddE_some I [] fun x hx y hy he => h.inj x ((h.mem x).1 (by simpa using hx)) y ((h.mem y).1 (by simpa using hy)) he
  unfold sortedE
  rw [hd]
  have hs := (stabL_perm d).symm.pairwise (ddE_seq I [] d hd List.Pairwise.nil) fun h => Ne.symm h
  show (stabL ltE d, (0 : Int)) = (A, 0)
  rw [order_ext (fun x => ?_) (strict_of (stabL_srt d) hs) h.srt]
  rw [stabL_mem, ddE_mem I [] d hd, ← h.mem]; simp
theorem TakeI.sizes {s : List Fml} {w : Wlk} {A I : List Ent} {last : Ent} {has : Bool} (h : TakeI s w A I last has) : ∀ x ∈ I, x.fits := fun x hx => (h.chk x ((h.mem x).1 hx)).2
theorem mem_dropLast_or {I : List Ent} {x : Ent} (h : x ∈ I) : x ∈ I.dropLast ∨ ∃ I', I = I' ++ [x] := by
  rcases List.eq_nil_or_concat I with e | ⟨I', b, e⟩
  · rw [e] at h; cases h
  · rw [e, List.concat_eq_append] at h ⊢
    rw [List.dropLast_concat]
    rcases List.mem_append.1 h with h | h
    · exact .inl h
    · rw [List.mem_singleton.1 h]; exact .inr ⟨I', rfl⟩
theorem TakeI.next {s : List Fml} {w : Wlk} {A I : List Ent} {last : Ent} {has : Bool} (h : TakeI s w A I last has) {e : Ent} (hs : w.s = s) (hf : e.fits) (hcl : clashB I e = false) (hp : (pushR w e).1 = true) : TakeI s (nextW w e) (A ++ [e]) (I ++ [e]) e true := by
  have hchk : checkedE s e = 0 := by
    rw [← hs]
    apply Decidable.byContradiction
    intro hc
    unfold pushR at hp
    rw [if_pos hc] at hp; cases hp
  have hany : w.any = true → compE w.last e < 0 ∧ w.last.seq ≠ e.seq := by
    intro ha
    unfold pushR at hp
    rw [hs, if_neg (by rw [hchk]; decide), if_pos ha] at hp
    split at hp
    · cases hp
    · split at hp
      · cases hp
      · split at hp
        · cases hp
        · rename_i h1 h2 h3
          rw [not_or] at h3
          exact ⟨by omega, h3.2⟩
  have hlt : ∀ x ∈ A, compE x e < 0 := by
    intro x hx
    have ha := h.iff.2 (by rintro rfl; cases hx)
    rcases List.eq_nil_or_concat A with he | ⟨A', b, he⟩
    · rw [he] at hx; cases hx
    · rw [List.concat_eq_append] at he
      have hb := h.lstA A' b he
      have h1 := (hany ha).1
      rw [hb] at h1
      rw [he] at hx
      rcases List.mem_append.1 hx with hx | hx
      · have hp' := h.srt
        rw [he] at hp'
        have := (List.pairwise_append.1 hp').2.2 x hx b (by simp)
        exact cok_comp.lt_le this (Int.le_of_lt h1)
      · rw [List.mem_singleton.1 hx]; exact h1
  have hsq : ∀ x ∈ A, x.seq ≠ e.seq := by
    intro x hx he
    have ha := h.iff.2 (by rintro rfl; cases hx)
    rcases mem_dropLast_or ((h.mem x).2 hx) with hd | ⟨I', hI⟩
    · have := List.any_eq_false.1 hcl x hd
      have hxe : x = e := by
        cases hb : sameE x e with
        | true => simpa [sameE] using hb
        | false => simp [hb, he] at this
      have := hlt x hx
      rw [hxe] at this
      exact comp_irr e this
    · rw [← h.lstI I' x hI] at he
      exact (hany ha).2 he
  have hn := nextW_any w e
  exact {
    mem := fun x => by rw [List.mem_append, List.mem_append, h.mem]
    srt := List.pairwise_append.2 ⟨h.srt, List.pairwise_singleton _ _, fun a ha b hb => by rw [List.mem_singleton.1 hb]; exact hlt a ha⟩
    seq := List.pairwise_append.2 ⟨h.seq, List.pairwise_singleton _ _, fun a ha b hb => by rw [List.mem_singleton.1 hb]; exact hsq a ha⟩
    chk := fun x hx => by
      rcases List.mem_append.1 hx with hx | hx
      · exact h.chk x hx
      · rw [List.mem_singleton.1 hx]; exact ⟨hchk, hf⟩
    has := hn.1.symm
    iff := by rw [hn.1]; simp
    lstA := fun A' e' he => by rw [hn.2]; exact (List.cons.inj (List.append_inj' he rfl).2).1
    lstI := fun A' e' he => by rw [hn.2]; exact (List.cons.inj (List.append_inj' he rfl).2).1
    last := fun _ => hn.2.symm
    len := by have := h.len; simp; omega }
theorem TakeI.again {s : List Fml} {w : Wlk} {A I : List Ent} {last : Ent} {has : Bool} (h : TakeI s w A I last has) {e : Ent} (hp : pushR w e = (false, 0)) (hc : checkedE w.s e = 0) : TakeI s w A (I ++ [e]) e true ∧ w.any = true ∧ w.last = e := by
  have hq : w.any = true ∧ w.last = e := by
    unfold pushR at hp
    rw [if_neg (by rw [hc]; decide)] at hp
    split at hp
    · rename_i ha
      split at hp
      · cases hp
      · split at hp
        · rename_i h2; exact ⟨ha, h2.2⟩
        · split at hp <;> cases hp
    · cases hp
  obtain ⟨ha, hl⟩ := hq
  have hin : e ∈ A := by
    rcases List.eq_nil_or_concat A with he | ⟨A', b, he⟩
    · exact absurd he (h.iff.1 ha)
    · rw [List.concat_eq_append] at he
      have := h.lstA A' b he
      rw [he, ← hl, this]; simp
  exact ⟨{
    mem := fun x => by
      rw [List.mem_append, h.mem, List.mem_singleton]
      constructor
      · rintro (g | rfl)
        · exact g
        · exact hin
      · exact .inl
    srt := h.srt
    seq := h.seq
    chk := h.chk
    has := ha.symm
    iff := h.iff
    lstA := h.lstA
    lstI := fun A' e' he => by rw [hl]; exact (List.cons.inj (List.append_inj' he rfl).2).1
    last := fun _ => hl.symm
    len := by have := h.len; simp; omega }, ha, hl⟩
def pushableE (s : List Fml) (last : Ent) (has : Bool) (e : Ent) : Int :=
  if checkE e ≠ 0 then checkE e
  else if (s.length : Int) ≤ e.fam then 21
  else if has = false then 0
  else if 0 < compE last e then 30
  else if last ≠ e ∧ (compE last e = 0 ∨ last.seq = e.seq) then 31
  else 0
theorem pushable_eq {s : List Fml} {w : Wlk} {A I : List Ent} {last : Ent} {has : Bool} (h : TakeI s w A I last has) (hs : w.s = s) (e : Ent) : pushableE s last has e = (pushR w e).2 := by
  unfold pushableE pushR checkedE
  rw [hs, h.has]
  by_cases h1 : checkE e ≠ 0
  · rw [if_pos h1, if_pos h1, if_pos h1]
  · rw [if_neg h1, if_neg h1]
    by_cases h2 : (s.length : Int) ≤ e.fam
    · rw [if_pos h2, if_pos h2, if_pos (by decide)]
    · rw [if_neg h2, if_neg h2, if_neg (show ¬ (0 : Int) ≠ 0 by decide)]
      cases ha : w.any with
      | false => rw [if_pos rfl, if_neg (show ¬ (false = true) by decide)]
      | true =>
        rw [if_neg (show ¬ (true = false) by decide), if_pos rfl, h.last ha]
        by_cases h3 : 0 < compE w.last e
        · rw [if_pos h3, if_pos h3]
        · rw [if_neg h3, if_neg h3]
          by_cases h4 : w.last = e
          · have h0 : compE w.last e = 0 := by rw [h4]; exact cok_comp.refl e
            rw [if_neg (by rintro ⟨g, _⟩; exact g h4), if_pos ⟨h0, h4⟩]
          · by_cases h5 : compE w.last e = 0 ∨ w.last.seq = e.seq
            · rw [if_pos (show w.last ≠ e ∧ _ from ⟨h4, h5⟩), if_neg (show ¬ (compE w.last e = 0 ∧ w.last = e) from fun g => h4 g.2), if_pos h5]
            · rw [if_neg (show ¬ (w.last ≠ e ∧ (compE w.last e = 0 ∨ w.last.seq = e.seq)) from fun g => h5 g.2), if_neg (show ¬ (compE w.last e = 0 ∧ w.last = e) from fun g => h4 g.2), if_neg h5]
theorem pushT_true {P : Program} (T : Tk P) (w : Wlk) (st : T.σ) {e : Ent} (hp : (pushR w e).1 = true) : pushT T w st e = nextT T (preW w e) (preT T w st e) e := by unfold pushT; rw [hp]; rfl
theorem pre_true {P : Program} (T : Tk P) {w : Wlk} (st : T.σ) {e : Ent} (hn : rowNew w e = true) : preT T w st e = closeT T w st ∧ preW w e = closeW w := by unfold preT preW; rw [hn]; exact ⟨rfl, rfl⟩
theorem pushT_gen {P : Program} (T : Tk P) (w : Wlk) (st : T.σ) {e : Ent} (hr : rowOK w) (hp : (pushR w e).1 = true) : pushT T w st e = nextT T w st e := (pushT_true T w st hp).trans (pre_nextT hr).1
theorem pushT_row {P : Program} (T : Tk P) (w : Wlk) (st : T.σ) {e : Ent} (hn : rowNew w e = true) (hp : (pushR w e).1 = true) : pushT T w st e = nextT T (closeW w) (closeT T w st) e := by
  rw [pushT_true T w st hp, (pre_true T st hn).1, (pre_true T st hn).2]
def shF (s : List Fml) (es : List Ev) (st : SSt) : SSt := es.foldl (evT (shownG s) id fun st _ _ => st) st
theorem shF_app (s : List Fml) (a b : List Ev) (st : SSt) : shF s (a ++ b) st = shF s b (shF s a st) := List.foldl_append
theorem shownG_tn (s : List Fml) (st : SSt) (d : Dec) : (shownG s st d).t = st.t ∧ (shownG s st d).n = st.n := by
  unfold shownG
  repeat' split
  all_goals exact ⟨rfl, rfl⟩
theorem shF_tn (s : List Fml) : ∀ (l : List Ev) (st : SSt), (shF s l st).t = st.t ∧ (shF s l st).n = st.n := by
  intro l
  induction l with
  | nil => intro st; exact ⟨rfl, rfl⟩
  | cons v l ih =>
    intro st
    have h1 := ih (evT (shownG s) id (fun st _ _ => st) st v)
    have h2 : (evT (shownG s) id (fun st _ _ => st) st v).t = st.t ∧ (evT (shownG s) id (fun st _ _ => st) st v).n = st.n := by
      cases v with
      | o => exact ⟨rfl, rfl⟩
      | m e b => exact ⟨rfl, rfl⟩
      | g d => exact shownG_tn s st d
    exact ⟨h1.1.trans h2.1, h1.2.trans h2.2⟩
theorem shF_split (s : List Fml) (l : List Ev) (st : SSt) : shF s l st = (shF s l { st with out := [] }).pre st.out := shown_split s l st
theorem shF_out (s : List Fml) (l : List Ev) (st : SSt) : (shF s l st).out = st.out ++ (shF s l { st with out := [] }).out := by rw [shF_split]; rfl
theorem nextT_shF (kw kt ko lo : Nat) (h : KSep kw kt ko lo) (w : Wlk) (st : SSt) (e : Ent) : (nextT (shownTk kw kt ko lo h) w st e : SSt) = shF w.s (evN w e) st := nextT_ev (shownTk kw kt ko lo h) w st e
theorem closeT_shF (kw kt ko lo : Nat) (h : KSep kw kt ko lo) (w : Wlk) (st : SSt) : (closeT (shownTk kw kt ko lo h) w st : SSt) = shF w.s (closeV w) st := closeT_ev (shownTk kw kt ko lo h) w st
structure RI (s : List Fml) (clock t vn : Int) (i : Nat) (w : Wlk) (st : SSt) (A I O : List Ent) (es : List Ev) (last : Ent) (has : Bool) : Prop where
  wi : WI s clock w A es
  tk : TakeI s w A I last has
  seq : SEq (shF s es (sst0 t vn)) { st with out := O }
  out : st.out = []
  inv : sInv i st
  rk : WRk s i w
  sm : w.opn = true → smallE w.ge
theorem RI.tn {s : List Fml} {clock t vn : Int} {i : Nat} {w : Wlk} {st : SSt} {A I O : List Ent} {es : List Ev} {last : Ent} {has : Bool} (h : RI s clock t vn i w st A I O es last has) : st.t = t ∧ st.n = vn := by
  have h1 := shF_tn s es (sst0 t vn)
  exact ⟨h.seq.t.symm.trans h1.1, h.seq.n.symm.trans h1.2⟩
theorem SEq.more {s : List Fml} {es es' : List Ev} {t vn : Int} {st : SSt} {O : List Ent} (h : SEq (shF s es (sst0 t vn)) { st with out := O }) (h0 : st.out = []) (hc : 0 ≤ st.count) : SEq (shF s (es ++ es') (sst0 t vn)) { shF s es' st with out := O ++ (shF s es' st).out } := by
  have h1 := SEq.run s es' h (by show 0 ≤ (shF s es (sst0 t vn)).count; rw [h.count]; exact hc)
  rw [shF_app]
  have h2 : shF s es' { st with out := O } = (shF s es' st).pre O := by
    rw [shF_split]
    congr 2
    cases st; cases h0; rfl
  show SEq (shF s es' (shF s es (sst0 t vn))) _
  have h3 : SEq (shF s es' (shF s es (sst0 t vn))) (shF s es' { st with out := O }) := h1
  rw [h2] at h3
  exact h3
theorem RI.start {s : List Fml} {clock t vn : Int} : RI s clock t vn 0 (wlk0 s clock) (sst0 t vn) [] [] [] [] ⟨[], 0, [], 0, 0, 0, []⟩ false where
  wi := WI.start rfl rfl rfl rfl
  tk := TakeI.start rfl _
  seq := ⟨rfl, rfl, rfl, rfl, fun _ => rfl⟩
  out := rfl
  inv := sInv0 t vn
  rk := wrk0 s clock
  sm := fun h => by cases h
section
variable {s : List Fml} {clock t vn : Int} {i : Nat} {w : Wlk} {st : SSt} {A I O : List Ent} {es : List Ev} {last : Ent} {has : Bool} {kw kt ko lo : Nat} (hk : KSep kw kt ko lo)
theorem RI.again (h : RI s clock t vn i w st A I O es last has) {e : Ent} (hp : pushR w e = (false, 0)) (hc : checkedE s e = 0) :
    RI s clock t vn i w st A (I ++ [e]) O es e true ∧ w.last = e ∧ has = true := by
  obtain ⟨h1, h2, h3⟩ := h.tk.again hp (by rw [h.wi.sch]; exact hc)
  exact ⟨⟨h.wi, h1, h.seq, h.out, h.inv, h.rk, h.sm⟩, h3, by rw [h.tk.has]; exact h2⟩
theorem RI.read (h : RI s clock t vn i w st A I O es last has) (hb : boundsE s clock [t] vn = 0) : (readE s clock t vn I) = (O ++ (closeT (shownTk kw kt ko lo hk) w st : SSt).out, 0) := by
  unfold readE
  rw [h.tk.prep hb, if_neg (show ¬ (0 : Int) ≠ 0 by decide)]
  have h1 := (SEq.more (es' := closeV w) h.seq h.out h.inv.1).out
  have h2 : (shownOf s clock t vn A).out = (shF s (es ++ closeV w) (sst0 t vn)).out := by unfold shownOf; rw [h.wi.done]; rfl
  show ((shownOf s clock t vn A).out, (0 : Int)) = _
  rw [h2, h1, closeT_shF, h.wi.sch]
theorem RI.row (h : RI s clock t vn i w st A I O es last has) (hb : boundsE s clock [t] vn = 0) {e : Ent} (hp : (pushR w e).1 = true) (hh : has = true) (hr : last.row ≠ e.row) :
    ∃ o, O ++ (pushT (shownTk kw kt ko lo hk) w st e : SSt).out = (readE s clock t vn I).1 ++ o := by
  have ha : w.any = true := by rw [← h.tk.has]; exact hh
  have hl := h.tk.last ha
  have hn : rowNew w e = true := by unfold rowNew; rw [ha, cond_true, ← hl]; simpa using hr
  rw [h.read hk hb]
  have : ∃ o, (pushT (shownTk kw kt ko lo hk) w st e : SSt).out = (closeT (shownTk kw kt ko lo hk) w st : SSt).out ++ o := by
    have h9 : (pushT (shownTk kw kt ko lo hk) w st e : SSt) = nextT (shownTk kw kt ko lo hk) (closeW w) (closeT (shownTk kw kt ko lo hk) w st) e := pushT_row (shownTk kw kt ko lo hk) w st hn hp
    have h8 := nextT_shF kw kt ko lo hk (closeW w) (closeT (shownTk kw kt ko lo hk) w st) e
    exact ⟨_, (congrArg SSt.out (Eq.trans (α := SSt) h9 h8)).trans (shF_out _ _ _)⟩
  obtain ⟨o, ho⟩ := this
  exact ⟨o, by rw [ho, List.append_assoc]⟩
theorem RI.done (h : RI s clock t vn i w st A I O es last has) (hb : boundsE s clock [t] vn = 0) (l0 : Ent) :
    RI s clock t vn (i + 1) (freshW w) { (closeT (shownTk kw kt ko lo hk) w st : SSt) with out := [], count := 0 } [] [] [] [] l0 false ∧ ∀ x ∈ (closeT (shownTk kw kt ko lo hk) w st : SSt).out, smallE x := by
  have h1 := shF_tn s (closeV w) st
  have h2 := h.tn
  have hcl := closeW_any w
  refine ⟨⟨WI.start rfl (closeW_opn w) ((closeW_s w).trans h.wi.sch) (hcl.2.2.2.trans h.wi.clk), TakeI.start rfl _, ?_, rfl, ⟨Int.le_refl _, by show (0 : Int) ≤ _; omega, Nat.zero_le _⟩, ?_, fun ho => ?_⟩, ?_⟩
  · rw [closeT_shF, h.wi.sch]
    exact ⟨by show t = (shF s (closeV w) st).t; rw [h1.1, h2.1], by show vn = (shF s (closeV w) st).n; rw [h1.2, h2.2], rfl, rfl, fun h => absurd h (by show ¬ (0 : Int) < 0; decide)⟩
  · have := h.rk.close
    exact ⟨this.sch, fun ho => by have : (closeW w).opn = true := ho; (rw [closeW_opn] at this; cases this), this.lo, this.hi⟩
  · have : (closeW w).opn = true := ho
    rw [closeW_opn] at this; cases this
  · rw [closeT_shF]
    exact shown_S _ _ _ (closeV_S h.sm) (by rw [h.out]; intro e he; cases he)
end
end Go.Proofs.YtijhkfhflpmajaaGreat
namespace Go.Proofs.YtijhkfhflpmajaaGreat
open Go Go.Sx Go.Rt Go.Proofs
theorem nextT_kF (kw kt ko lo : Nat) (h : KSep kw kt ko lo) (w : Wlk) (st : KSt) (e : Ent) : (nextT (keptTk kw kt ko lo h) w st e : KSt) = kF w.s (evN w e) st := nextT_ev (keptTk kw kt ko lo h) w st e
theorem closeT_kF (kw kt ko lo : Nat) (h : KSep kw kt ko lo) (w : Wlk) (st : KSt) : (closeT (keptTk kw kt ko lo h) w st : KSt) = kF w.s (closeV w) st := closeT_ev (keptTk kw kt ko lo h) w st
structure KI (s : List Fml) (clock : Int) (mj : Bool) (low : Int) (i : Nat) (w : Wlk) (st : KSt) (A I O : List Ent) (es : List Ev) (last : Ent) (has : Bool) (D : Drp) : Prop where
  wi : WI s clock w A es
  tk : TakeI s w A I last has
  hmj : st.major = mj
  hlw : st.low = low
  told : O = es.flatMap (kOf s mj low)
  out : st.out = []
  cnt : st.drp = olds (D.adds (es.map (evW s mj low))) ((I.length : Int) - A.length)
  inv : kInv i st
  rk : WRk s i w
  sm : w.opn = true → smallE w.ge
theorem KI.start {s : List Fml} {clock low : Int} {mj : Bool} : KI s clock mj low 0 (wlk0 s clock) (kst0 mj low) [] [] [] [] ⟨[], 0, [], 0, 0, 0, []⟩ false ⟨0, 0, 0, 0, 0⟩ where
  wi := WI.start rfl rfl rfl rfl
  tk := TakeI.start rfl _
  hmj := rfl
  hlw := rfl
  told := rfl
  out := rfl
  cnt := rfl
  inv := kInv0 mj low
  rk := wrk0 s clock
  sm := fun h => by cases h
theorem pushF_true {kw kt ko lo : Nat} (h : KSep kw kt ko lo) (w : Wlk) (st : KSt) {e : Ent} (hp : (pushR w e).1 = true) : pushF kw kt ko lo h w st e = (pushT (keptTk kw kt ko lo h) w st e : KSt) := by unfold pushF; rw [hp]; rfl
theorem pushF_false {kw kt ko lo : Nat} (h : KSep kw kt ko lo) (w : Wlk) (st : KSt) {e : Ent} (hp : (pushR w e).1 = false) : pushF kw kt ko lo h w st e = keptO st := by unfold pushF; rw [hp]; rfl
theorem kInv.none {i : Nat} {st : KSt} (h : kInv i st) : kInv i { st with out := [] } := by
  obtain ⟨a, b, c, d, e, f⟩ := h
  refine ⟨a, b, c, d, e, ?_⟩
  show st.older + st.masked + st.expired + st.above + st.marks + ((0 : Nat) : Int) ≤ i
  omega
theorem kInv.old {i : Nat} {st : KSt} (h : kInv i st) : kInv (i + 1) (keptO st) := by
  obtain ⟨a, b, c, d, e, f⟩ := h
  refine ⟨by show 0 ≤ st.older + 1; omega, b, c, d, e, ?_⟩
  show st.older + 1 + st.masked + st.expired + st.above + st.marks + (st.out.length : Int) ≤ ((i + 1 : Nat) : Int)
  omega
section
variable {s : List Fml} {clock low : Int} {mj : Bool} {i : Nat} {w : Wlk} {st : KSt} {A I O : List Ent} {es : List Ev} {last : Ent} {has : Bool} {D : Drp} {kw kt ko lo : Nat} (hk : KSep kw kt ko lo)
theorem KI.oks (h : KI s clock mj low i w st A I O es last has D) (hb : boundsE s clock [low] 1 = 0) (hi : i ≤ 1000000000) (e : Ent) :
    KSt.ok st ∧ KSt.ok (preT (keptTk kw kt ko lo hk) w st e) ∧ KSt.ok (nt1 (keptTk kw kt ko lo hk) (preW w e) (preT (keptTk kw kt ko lo hk) w st e) e) ∧ WOK w ∧ WOK (preW w e) := by
  have hI := kept_inv kw kt ko lo hk
  have ht := ttl_of (boundsE_zero hb).1
  have h1 : kInv (i + 1) (preT (keptTk kw kt ko lo hk) w st e) := by
    unfold preT; cases rowNew w e
    · exact hI.up _ _ h.inv
    · exact hI.close h.inv
  have h2 := hI.nt1 (w := preW w e) (e := e) h1
  have h3 : WRk s (i + 1) (preW w e) := by
    unfold preW; cases rowNew w e
    · exact h.rk.mono (by omega)
    · exact h.rk.close
  exact ⟨hI.ok i _ (by omega) h.inv, hI.ok _ _ (by omega) h1, hI.ok _ _ (by omega) h2, h.rk.wok (by omega) ht, h3.wok (by omega) ht⟩
theorem kpushT_eq (h : KI s clock mj low i w st A I O es last has D) (e : Ent) (hp : (pushR w e).1 = true) : pushW w e = nextW w e ∧ (pushT (keptTk kw kt ko lo hk) w st e : KSt) = kF s (evN w e) st := by
  refine ⟨by unfold pushW; rw [hp, cond_true, pre_next h.wi.row], ?_⟩
  have h9 : (pushT (keptTk kw kt ko lo hk) w st e : KSt) = nextT (keptTk kw kt ko lo hk) w st e := pushT_gen (keptTk kw kt ko lo hk) w st h.wi.row hp
  have h8 := nextT_kF kw kt ko lo hk w st e
  rw [h.wi.sch] at h8
  exact Eq.trans (α := KSt) h9 h8
theorem KI.new (h : KI s clock mj low i w st A I O es last has D) {e : Ent} (hf : e.fits) (hcl : clashB I e = false) (hp : (pushR w e).1 = true) :
    KI s clock mj low (i + 2) (pushW w e) { (pushT (keptTk kw kt ko lo hk) w st e : KSt) with out := [] } (A ++ [e]) (I ++ [e]) (O ++ (pushT (keptTk kw kt ko lo hk) w st e : KSt).out) (es ++ evN w e) e true D ∧ ∀ x ∈ (pushT (keptTk kw kt ko lo hk) w st e : KSt).out, smallE x := by
  obtain ⟨q1, q2⟩ := kpushT_eq hk h e hp
  have htk := h.tk.next h.wi.sch hf hcl hp
  have hce : checkedE s e = 0 := (htk.chk e (by simp)).1
  have hsm := small_of (checkedE_zero hce).1
  have hI := (kept_inv kw kt ko lo hk).next (w := w) (e := e) h.inv
  have hI2 : kInv (i + 2) (kF s (evN w e) st) := by rw [← h.wi.sch, ← nextT_kF kw kt ko lo hk]; exact hI
  obtain ⟨k1, k2, k3, k4⟩ := kF_all s (evN w e) st
  rw [h.hmj, h.hlw] at k1 k2
  rw [h.hmj] at k3
  rw [h.hlw] at k4
  rw [q1, q2]
  refine ⟨⟨h.wi.next e, htk, k3, k4, ?_, rfl, ?_, hI2.none, (h.rk.next (goodE_of hce) (by omega)).mono (by omega), nextW_S h.sm hsm⟩, ?_⟩
  · rw [k2, h.out, List.nil_append, List.flatMap_append, h.told]
  · show (kF s (evN w e) st).drp = _
    rw [k1, h.cnt, olds_adds, List.map_append, Drp.adds_app]
    congr 1
    simp only [List.length_append, List.length_singleton]; omega
  · exact kept_S s _ _ (evN_S h.sm hsm) (by rw [h.out]; intro e he; cases he)
theorem KI.again (h : KI s clock mj low i w st A I O es last has D) {e : Ent} (hp : pushR w e = (false, 0)) (hc : checkedE s e = 0) :
    KI s clock mj low (i + 1) w (keptO st) A (I ++ [e]) O es e true D ∧ w.last = e ∧ has = true := by
  obtain ⟨h1, h2, h3⟩ := h.tk.again hp (by rw [h.wi.sch]; exact hc)
  refine ⟨⟨h.wi, h1, h.hmj, h.hlw, h.told, h.out, ?_, h.inv.old, h.rk.mono (by omega), h.sm⟩, h3, by rw [h.tk.has]; exact h2⟩
  have h9 := h.cnt
  have h8 : (keptO st).drp = olds st.drp 1 := rfl
  rw [h8, h9]
  simp only [olds, List.length_append, List.length_singleton, Drp.mk.injEq, and_true]; omega
theorem KI.squash (h : KI s clock mj low i w st A I O es last has D) (hb : boundsE s clock [low] 1 = 0) : squashE s clock mj low I = (O ++ (closeT (keptTk kw kt ko lo hk) w st : KSt).out, 0) := by
  unfold squashE
  rw [h.tk.prep hb, if_neg (show ¬ (0 : Int) ≠ 0 by decide)]
  have h1 : (keptOf s clock mj low A) = kF s (es ++ closeV w) (kst0 mj low) := by unfold keptOf; rw [h.wi.done]; rfl
  show ((keptOf s clock mj low A).out, (0 : Int)) = _
  rw [h1, closeT_kF, h.wi.sch, (kF_all s _ (kst0 mj low)).2.1, (kF_all s _ st).2.1, h.hmj, h.hlw, h.out, h.told, List.flatMap_append]
  rfl
theorem KI.asked (h : KI s clock mj low i w st A I O es last has D) (hb : boundsE s clock [low] 1 = 0) : rAsked s clock low 0 1 I = 0 := by
  have hp := h.tk.prep (clock := clock) (times := [low]) (k := 1) hb
  rcases prep_cases s clock I (times := [low]) (k := 1) (low := low) (t := 0) (n := 1) (by simp [timesBad, bout_t, tOut, bout]) with ⟨h0, h9⟩ | ⟨h0, h9, hr, _⟩
  · rw [hp] at h9
    exact absurd (congrArg Prod.snd h9).symm h0
  · exact h0
theorem KI.drop (h : KI s clock mj low i w st A I O es last has D) (hb : boundsE s clock [low] 1 = 0) : (closeT (keptTk kw kt ko lo hk) w st : KSt).drp = plusD D (dropE s clock mj low I) := by
  have hp := h.tk.prep (clock := clock) (times := [low]) (k := 1) hb
  have hA : A = rOrd I ∧ ZReady s I (rOrd I) := by
    rcases prep_cases s clock I (times := [low]) (k := 1) (low := low) (t := 0) (n := 1) (by simp [timesBad, bout_t, tOut, bout]) with ⟨h0, h9⟩ | ⟨h0, h9, hr, _⟩
    · rw [hp] at h9
      exact absurd (congrArg Prod.snd h9).symm h0
    · rw [hp] at h9
      exact ⟨congrArg Prod.fst h9, hr⟩
  obtain ⟨hA, hr⟩ := hA
  have hc := fun j => kept_counts (s := s) (clock := clock) hr.ord hr.kind mj low j
  rw [← hA] at hc
  have hd := h.wi.done
  rw [closeT_kF, h.wi.sch, (kF_all s _ st).1, h.hmj, h.hlw, h.cnt, olds_adds, ← Drp.adds_app, ← List.map_append, ← hd]
  unfold dropE plusD
  rw [← hA]
  simp only [olds, Drp.adds, hc, Drp.mk.injEq, Int.zero_add, and_true]
  omega
theorem KI.row (h : KI s clock mj low i w st A I O es last has D) (hb : boundsE s clock [low] 1 = 0) {e : Ent} (hp : (pushR w e).1 = true) (hh : has = true) (hr : last.row ≠ e.row) :
    ∃ o, O ++ (pushT (keptTk kw kt ko lo hk) w st e : KSt).out = (squashE s clock mj low I).1 ++ o := by
  have ha : w.any = true := by rw [← h.tk.has]; exact hh
  have hl := h.tk.last ha
  have hn : rowNew w e = true := by unfold rowNew; rw [ha, cond_true, ← hl]; simpa using hr
  rw [h.squash hk hb]
  have : ∃ o, (pushT (keptTk kw kt ko lo hk) w st e : KSt).out = (closeT (keptTk kw kt ko lo hk) w st : KSt).out ++ o := by
    have h9 : (pushT (keptTk kw kt ko lo hk) w st e : KSt) = nextT (keptTk kw kt ko lo hk) (closeW w) (closeT (keptTk kw kt ko lo hk) w st) e := pushT_row (keptTk kw kt ko lo hk) w st hn hp
    have h8 := nextT_kF kw kt ko lo hk (closeW w) (closeT (keptTk kw kt ko lo hk) w st)  e
    exact ⟨_, (congrArg KSt.out (Eq.trans (α := KSt) h9 h8)).trans (kF_all _ _ _).2.1⟩
  obtain ⟨o, ho⟩ := this
  exact ⟨o, by rw [ho, List.append_assoc]⟩
theorem KI.done (h : KI s clock mj low i w st A I O es last has D) (hb : boundsE s clock [low] 1 = 0) (l0 : Ent) :
    KI s clock mj low (i + 1) (freshW w) { (closeT (keptTk kw kt ko lo hk) w st : KSt) with out := [] } [] [] [] [] l0 false (plusD D (dropE s clock mj low I)) ∧ ∀ x ∈ (closeT (keptTk kw kt ko lo hk) w st : KSt).out, smallE x := by
  have hcl := closeW_any w
  have hdr := h.drop hk hb
  have hin := (kept_inv kw kt ko lo hk).close (w := w) h.inv
  have hk9 := closeT_kF kw kt ko lo hk w st
  rw [h.wi.sch] at hk9
  obtain ⟨k1, k2, k3, k4⟩ := kF_all s (closeV w) st
  refine ⟨⟨WI.start rfl (closeW_opn w) ((closeW_s w).trans h.wi.sch) (hcl.2.2.2.trans h.wi.clk), TakeI.start rfl _, ?_, ?_, rfl, rfl, ?_, kInv.none hin, ?_, fun ho => ?_⟩, ?_⟩
  · show (closeT (keptTk kw kt ko lo hk) w st : KSt).major = mj
    rw [hk9, k3, h.hmj]
  · show (closeT (keptTk kw kt ko lo hk) w st : KSt).low = low
    rw [hk9, k4, h.hlw]
  · show (closeT (keptTk kw kt ko lo hk) w st : KSt).drp = _
    rw [hdr, List.map_nil, Drp.adds_nil]
    simp [olds]
  · have := h.rk.close
    exact ⟨this.sch, fun ho => by have : (closeW w).opn = true := ho; (rw [closeW_opn] at this; cases this), this.lo, this.hi⟩
  · have : (closeW w).opn = true := ho
    rw [closeW_opn] at this; cases this
  · rw [hk9]
    exact kept_S _ _ _ (closeV_S h.sm) (by rw [h.out]; intro e he; cases he)
theorem KI.mono (h : KI s clock mj low i w st A I O es last has D) {j : Nat} (hj : i ≤ j) : KI s clock mj low j w st A I O es last has D :=
  ⟨h.wi, h.tk, h.hmj, h.hlw, h.told, h.out, h.cnt, by obtain ⟨a, b, c, d, e, f⟩ := h.inv; exact ⟨a, b, c, d, e, by omega⟩, h.rk.mono (by omega), h.sm⟩
theorem KI.push (h : KI s clock mj low i w st A I O es last has D) (hb : boundsE s clock [low] 1 = 0) {e : Ent} (hf : e.fits) (hcl : clashB I e = false) (hp : (pushR w e).2 = 0) :
    (∃ A' es', KI s clock mj low (i + 2) (pushW w e) { pushF kw kt ko lo hk w st e with out := [] } A' (I ++ [e]) (O ++ (pushF kw kt ko lo hk w st e).out) es' e true D) ∧ (∀ x ∈ (pushF kw kt ko lo hk w st e).out, smallE x) ∧
    (has = true → last.row ≠ e.row → ∃ o, O ++ (pushF kw kt ko lo hk w st e).out = (squashE s clock mj low I).1 ++ o) := by
  cases h1 : (pushR w e).1 with
  | true =>
    obtain ⟨g1, g2⟩ := h.new hk hf hcl h1
    rw [pushF_true hk w st h1]
    exact ⟨⟨_, _, g1⟩, g2, fun hh hr => h.row hk hb h1 hh hr⟩
  | false =>
    have hpr : pushR w e = (false, 0) := by rw [← h1, ← hp]
    have hc : checkedE s e = 0 := by
      apply Decidable.byContradiction
      intro hc
      unfold pushR at hp
      rw [h.wi.sch, if_pos hc] at hp
      exact hc hp
    obtain ⟨g1, g2, g3⟩ := h.again hpr hc
    have hW : pushW w e = w := by unfold pushW; rw [h1]; rfl
    rw [pushF_false hk w st h1, hW]
    have h0 : (keptO st).out = [] := h.out
    refine ⟨⟨A, es, ?_⟩, fun x hx => (by rw [h0] at hx; cases hx), fun hh hr => ?_⟩
    · have h9 : { keptO st with out := [] } = keptO st := by have := h.out; cases st; cases this; rfl
      rw [h9, h0, List.append_nil]
      exact g1.mono (by omega)
    · exact absurd (congrArg Ent.row ((h.tk.last (by rw [← h.tk.has]; exact hh)).trans g2)) hr
end
end Go.Proofs.YtijhkfhflpmajaaGreat
namespace Go.Proofs.YtijhkfhflpmajaaGreat
open Go Go.Sx Go.Rt Go.Proofs
theorem callG_true {P : Program} {g : Bool} {fv : AV} {args : List AV} {H : Heap} {n : Nat} {k kp : AV → Heap → Nat → Prop} (hg : g = true) (h : callK P fv args H n (fun r H' n' => k (.opt true r) H' n') kp) : callG P g fv args H n k kp := ⟨fun _ => h, fun h0 => absurd (hg.symm.trans h0) (by decide)⟩
def lpLg (H : Heap) (p : Lp) (b : List UInt8) : Prop := ∃ Z, H p.k = some (.arr p.ver 1 (b.map byteAV ++ Z)) ∧ ∀ z ∈ Z, z.sz = 1
structure leLg (H : Heap) (x : LEnt) : Prop where
  r : lpLg H x.r x.e.row
  q : lpLg H x.q x.e.qual
  v : lpLg H x.v x.e.value
def lpSh (H : Heap) (p : Lp) (l : Nat) : Prop := ∃ els, H p.k = some (.arr p.ver 1 els) ∧ l ≤ els.length ∧ ∀ z ∈ els, z.sz = 1
structure leSh (H : Heap) (x : LEnt) : Prop where
  r : lpSh H x.r x.e.row.length
  q : lpSh H x.q x.e.qual.length
  v : lpSh H x.v x.e.value.length
theorem lpLg.sh {H : Heap} {p : Lp} {b : List UInt8} (h : lpLg H p b) : lpSh H p b.length := by
  obtain ⟨Z, h1, h2⟩ := h
  refine ⟨_, h1, by simp, fun z hz => ?_⟩
  rcases List.mem_append.1 hz with hz | hz
  · obtain ⟨y, _, rfl⟩ := List.mem_map.1 hz; rfl
  · exact h2 z hz
theorem lpLg.grow {H H' : Heap} {p : Lp} {b : List UInt8} (h : lpLg H p b) {k v n : Nat} {X Y : List AV} (hk : H k = some (.arr v 1 X)) (hk' : H' k = some (.arr v 1 (X ++ Y))) (hY : ∀ y ∈ Y, y.sz = 1) (hr : ∀ j, j < n → j ≠ k → H' j = H j) (hp : p.k < n) : lpLg H' p b := by
  obtain ⟨Z, h1, h2⟩ := h
  by_cases e : p.k = k
  · subst e
    rw [h1] at hk
    simp only [Option.some.injEq, AObj.arr.injEq] at hk
    obtain ⟨rfl, _, rfl⟩ := hk
    exact ⟨Z ++ Y, by rw [hk', List.append_assoc], fun z hz => by rcases List.mem_append.1 hz with g | g; (exact h2 z g); (exact hY z g)⟩
  · exact ⟨Z, (hr _ hp e).trans h1, h2⟩
theorem leLg.grow {H H' : Heap} {x : LEnt} (h : leLg H x) {k v n : Nat} {X Y : List AV} (hk : H k = some (.arr v 1 X)) (hk' : H' k = some (.arr v 1 (X ++ Y))) (hY : ∀ y ∈ Y, y.sz = 1) (hr : ∀ j, j < n → j ≠ k → H' j = H j) (hp : ∀ j ∈ x.ks, j < n) : leLg H' x :=
  ⟨h.r.grow hk hk' hY hr (hp _ (by simp [LEnt.ks])), h.q.grow hk hk' hY hr (hp _ (by simp [LEnt.ks])), h.v.grow hk hk' hY hr (hp _ (by simp [LEnt.ks]))⟩
theorem leLg.sh {H : Heap} {x : LEnt} (h : leLg H x) : leSh H x := ⟨h.r.sh, h.q.sh, h.v.sh⟩
theorem lpSh.put {H : Heap} {p : Lp} {l k v : Nat} {els els' : List AV} (h : lpSh H p l) (hk : H k = some (.arr v 1 els)) (hl : els'.length = els.length) (hs : ∀ z ∈ els', z.sz = 1) : lpSh (H.put k (some (.arr v 1 els'))) p l := by
  obtain ⟨es, h1, h2, h3⟩ := h
  by_cases e : p.k = k
  · subst e
    rw [h1] at hk
    simp only [Option.some.injEq, AObj.arr.injEq] at hk
    obtain ⟨rfl, _, rfl⟩ := hk
    exact ⟨els', Heap.put_same _ _ _, by omega, hs⟩
  · exact ⟨es, (Heap.put_ne _ _ e).trans h1, h2, h3⟩
theorem leSh.put {H : Heap} {x : LEnt} {k v : Nat} {els els' : List AV} (h : leSh H x) (hk : H k = some (.arr v 1 els)) (hl : els'.length = els.length) (hs : ∀ z ∈ els', z.sz = 1) : leSh (H.put k (some (.arr v 1 els'))) x := ⟨h.r.put hk hl hs, h.q.put hk hl hs, h.v.put hk hl hs⟩
theorem lpSh.put7 {H : Heap} {p : Lp} {l k : Nat} (h : lpSh H p l) {o : Option AObj} {v : Nat} {els : List AV} (hk : H k = some (.arr v 7 els)) : lpSh (H.put k o) p l := by
  obtain ⟨es, h1, h2, h3⟩ := h
  refine ⟨es, (Heap.put_ne _ _ fun e => ?_).trans h1, h2, h3⟩
  rw [e, hk] at h1
  simp at h1
theorem leSh.put7 {H : Heap} {x : LEnt} {k : Nat} (h : leSh H x) {o : Option AObj} {v : Nat} {els : List AV} (hk : H k = some (.arr v 7 els)) : leSh (H.put k o) x := ⟨h.r.put7 hk, h.q.put7 hk, h.v.put7 hk⟩
theorem lp_ok {H : Heap} {n : Nat} {p : Lp} {b : List UInt8} (h : lpLg H p b) (hk : p.k < n) : ∃ p' : Lp, p'.k = p.k ∧ p'.ver = p.ver ∧ p'.ok H n b := by
  obtain ⟨Z, h1, h2⟩ := h
  exact ⟨⟨p.k, p.ver, b.map byteAV ++ Z⟩, rfl, rfl, ⟨⟨h1, by simp, by simp⟩, hk⟩⟩
theorem le_ok {H : Heap} {n : Nat} {x : LEnt} (h : leLg H x) (hk : ∀ k ∈ x.ks, k < n) : ∃ y : LEnt, lentAV y = lentAV x ∧ y.e = x.e ∧ y.ok H n := by
  obtain ⟨r, r1, r2, r3⟩ := lp_ok h.r (hk _ (by simp [LEnt.ks]))
  obtain ⟨q, q1, q2, q3⟩ := lp_ok h.q (hk _ (by simp [LEnt.ks]))
  obtain ⟨v, v1, v2, v3⟩ := lp_ok h.v (hk _ (by simp [LEnt.ks]))
  exact ⟨{ x with r := r, q := q, v := v }, by simp only [lentAV, Lp.av, r1, r2, q1, q2, v1, v2], rfl, ⟨r3, q3, v3⟩⟩
theorem les_ok {H : Heap} {n : Nat} : ∀ (xs : List LEnt), (∀ x ∈ xs, leLg H x) → (∀ k ∈ xs.flatMap LEnt.ks, k < n) → ∃ ys : List LEnt, ys.map lentAV = xs.map lentAV ∧ ys.map (·.e) = xs.map (·.e) ∧ ∀ y ∈ ys, y.ok H n
  | [], _, _ => ⟨[], rfl, rfl, fun y hy => by cases hy⟩
  | x :: xs, h, hk => by
    obtain ⟨y, h1, h2, h3⟩ := le_ok (h x (by simp)) fun k hx => hk k (by simp [hx])
    obtain ⟨ys, h4, h5, h6⟩ := les_ok xs (fun z hz => h z (by simp [hz])) fun k hx => hk k (by rw [List.flatMap_cons]; exact List.mem_append_right _ hx)
    exact ⟨y :: ys, by simp [h1, h4], by simp [h2, h5], fun z hz => by rcases List.mem_cons.1 hz with e | hz; (rw [e]; exact h3); (exact h6 z hz)⟩
theorem mine_lg {H : Heap} {lo hi : Nat} {p : Lp} {b : List UInt8} (h : p.mine H lo hi b) : lpLg H p b := ⟨[], by rw [h.at', h.els]; simp, by simp⟩
theorem mine_lgE {H : Heap} {lo hi : Nat} {x : LEnt} (h : x.mine H lo hi) : leLg H x := ⟨mine_lg h.r, mine_lg h.q, mine_lg h.v⟩
theorem sz1_set {els : List AV} {i : Nat} {v : AV} (h : ∀ x ∈ els, x.sz = 1) (hv : v.sz = 1) : ∀ x ∈ els.set i v, x.sz = 1 := fun x hx => by
  rcases List.mem_or_eq_of_mem_set hx with h9 | h9
  · exact h x h9
  · rw [h9]; exact hv
theorem nth_in {els : List AV} {i : Nat} (h : i < els.length) : nth els i ∈ els := by
  simp [nth, List.getD, List.getElem?_eq_getElem h]
structure Lng (xs : List LEnt) (i : Nat) (H : Heap) (n : Nat) (H' : Heap) (n' : Nat) : Prop where
  le : n ≤ n'
  lg : ∀ x ∈ xs, leLg H' x
  rest : ∀ k, k < n → k ∉ (xs.take i).flatMap LEnt.ks → H' k = H k
theorem take_succ_ks (xs : List LEnt) {i : Nat} (h : i < xs.length) : (xs.take (i + 1)).flatMap LEnt.ks = (xs.take i).flatMap LEnt.ks ++ (xs.getD i default).ks := by
  rw [List.take_add_one, List.flatMap_append]; simp [List.getD, List.getElem?_eq_getElem h]
theorem ks_ne {xs : List LEnt} (h : (xs.flatMap LEnt.ks).Nodup) {i : Nat} (hi : i < xs.length) : ((xs.getD i default).ks).Nodup ∧ ∀ k ∈ (xs.getD i default).ks, k ∉ (xs.take i).flatMap LEnt.ks := by
  have h1 : ((xs.take (i + 1)).flatMap LEnt.ks).Nodup := by
    have h9 : xs = xs.take (i + 1) ++ xs.drop (i + 1) := (List.take_append_drop _ _).symm
    rw [h9, List.flatMap_append] at h
    exact (List.nodup_append.1 h).1
  rw [take_succ_ks xs hi] at h1
  obtain ⟨_, h2, h3⟩ := List.nodup_append.1 h1
  exact ⟨h2, fun k hk hk' => h3 k hk' k hk rfl⟩
structure Fil (xs : List LEnt) (ko ver i : Nat) (zs : List AV) (H : Heap) (n : Nat) (H' : Heap) (n' : Nat) : Prop where
  le : n ≤ n'
  at' : H' ko = some (.arr ver 7 zs)
  len : zs.length = xs.length
  nth : ∀ j, i ≤ j → j < xs.length → nth zs j = lentAV (xs.getD j default)
  sh : ∀ x ∈ xs, leSh H' x
  rest : ∀ k, k < n → k ≠ ko → k ∉ xs.flatMap LEnt.ks → H' k = H k
theorem Fil.put {xs : List LEnt} {ko ver i : Nat} {zs : List AV} {H : Heap} {n : Nat} {H' : Heap} {n' : Nat} (h : Fil xs ko ver i zs H n H' n') {k v : Nat} {els els' : List AV} (hk : H' k = some (.arr v 1 els)) (hin : k ∈ xs.flatMap LEnt.ks) (hl : els'.length = els.length) (hs : ∀ z ∈ els', z.sz = 1) :
    Fil xs ko ver i zs H n (H'.put k (some (.arr v 1 els'))) n' := by
  have hne : ko ≠ k := fun e => by rw [← e, h.at'] at hk; simp at hk
  exact ⟨h.le, (Heap.put_ne _ _ hne).trans h.at', h.len, h.nth, fun x hx => (h.sh x hx).put hk hl hs, fun j h1 h2 h3 => (Heap.put_ne _ _ (fun e => h3 (by rw [e]; exact hin))).trans (h.rest j h1 h2 h3)⟩
theorem Fil.next {xs : List LEnt} {ko ver i : Nat} {zs : List AV} {H : Heap} {n : Nat} {H' : Heap} {n' : Nat} (h : Fil xs ko ver i zs H n H' n') (v : AV) : Fil xs ko ver (i + 1) (zs.set i v) H n (H'.put ko (some (.arr ver 7 (zs.set i v)))) n' := by
  refine ⟨h.le, Heap.put_same _ _ _, by simp [h.len], fun j h1 h2 => ?_, fun x hx => (h.sh x hx).put7 h.at', fun j h1 h2 h3 => (Heap.put_ne _ _ h2).trans (h.rest j h1 h2 h3)⟩
  rw [← h.nth j (by omega) h2]
  simp [Sx.nth, List.getD, List.getElem?_set_ne (show i ≠ j by omega)]
set_option maxHeartbeats 1600000 in
theorem c_law_spoil (ko ver lo : Nat) (xs : List LEnt) (hxl : xs.length ≤ 10000000) (hsm : ∀ x ∈ xs, smallE x.e) (H : Heap) (n : Nat) (hkn : ko < n) (hko : H ko = some (.arr ver 7 (xs.map lentAV))) (hm : MineL H lo n xs) (hne : ko ∉ xs.flatMap LEnt.ks) :
    ACalls Tryz.prog 88 [.osl ko ver 0 xs.length] H n fun res H' n' => res = .val (.bool true) ∧ n ≤ n' ∧ ∀ k, k < n → k ≠ ko → k ∉ xs.flatMap LEnt.ks → H' k = H k := by
  have hLL : LList H n ⟨ko, ver, xs.map lentAV⟩ xs := ⟨hkn, hko, by simp, List.take_of_length_le (by simp), hm.ok⟩
  have hcl : Ret Tryz.prog 13 [.osl ko ver 0 xs.length] H n (entsAV (xs.map (·.e))) H n := l_ref3_CloneAll ⟨ko, ver, xs.map lentAV⟩ xs (by omega) (fun x hx => small_fits (hsm x hx)) H n hLL
  have r1 : (0 : Nat) = 0 := rfl
  have hlm : (xs.map lentAV).length = xs.length := List.length_map _
  have hpre : ∀ i, ∀ k, k ∈ (xs.take i).flatMap LEnt.ks → k ∈ xs.flatMap LEnt.ks := fun i k hk => by
    obtain ⟨x, hx, hk⟩ := List.mem_flatMap.1 hk
    exact List.mem_flatMap.2 ⟨x, List.mem_of_mem_take hx, hk⟩
  refine acalls_of_awp Tryz.func88 rfl Tryz.ntmps88 (congrArg Array.toList Tryz.results88) (by simp) ?_
  simp only [go_sem]
  refine awp_rq zs [0] ?_
  refine awp_reg zs [0, 3] fun K hK => ?_
  try simp only [go_sem, seval]
  refine callK_use Tryz.func13 rfl rfl rfl (hcl) ?_
  try simp only [go_sem, seval]
  refine hK _ _ _ ?_; clear hK K
  refine awp_seq_k fun K1 hK1 => ?_
  refine awp_rq zs [0, 3, 4] ?_
  refine awp_block ?_
  refine awp_loop (fun T' H' n' => ∃ i : Nat, i ≤ xs.length ∧ T' = tl [(0, .osl ko ver 0 xs.length), (3, .sl 7 ((xs.map (·.e)).map entAV)), (4, .int .i64 i)] ∧ Lng xs i H n H' n') (fun T' _ _ => xs.length - iv (T' 4)) ?_ ?_
  ·skip
   exact ⟨0, Nat.zero_le _, rfl, Nat.le_refl _, fun x hx => mine_lgE (hm.all x hx), fun k _ _ => rfl⟩
  intro T1 H1 n1
  rintro ⟨i, hi, rfl, hL⟩
  refine awp_seq_k fun K2 hK2 => ?_
  refine awp_rq zs [0, 3, 4, 15] ?_
  refine awp_cnd (fun hb => ?_) (fun hb => ?_)
  ·skip
   have hlt : i < xs.length := by simpa using hb
   have hnth : nth (xs.map lentAV) i = lentAV (xs.getD i default) := nth_map lentAV xs i hlt
   have hmem : xs.getD i default ∈ xs := by simp [List.getD, List.getElem?_eq_getElem hlt]
   obtain ⟨hnd, hout⟩ := ks_ne hm.nd hlt
   have hks := take_succ_ks xs hlt
   generalize xs.getD i default = x at *
   have hx := hm.all x hmem
   have hs := hsm x hmem
   have hle := hL.le
   have hxin : ∀ k ∈ x.ks, k < n ∧ k ≠ ko := fun k hk => ⟨(hx.in' hk).2, fun e => hne (by rw [← e]; exact List.mem_flatMap.2 ⟨x, hmem, hk⟩)⟩
   have hr0 : x.r.k < n ∧ x.r.k ≠ ko := hxin _ (by simp [LEnt.ks])
   have hq0 : x.q.k < n ∧ x.q.k ≠ ko := hxin _ (by simp [LEnt.ks])
   have hv0 : x.v.k < n ∧ x.v.k ≠ ko := hxin _ (by simp [LEnt.ks])
   have hnd9 : x.r.k ≠ x.q.k ∧ x.r.k ≠ x.v.k ∧ x.q.k ≠ x.v.k := by simp [LEnt.ks] at hnd; omega
   have hr1 : H1 x.r.k = some (.arr x.r.ver 1 (x.e.row.map byteAV)) := (hL.rest _ hr0.1 (hout _ (by simp [LEnt.ks]))).trans (by rw [hx.r.at', hx.r.els])
   have hq1 : H1 x.q.k = some (.arr x.q.ver 1 (x.e.qual.map byteAV)) := (hL.rest _ hq0.1 (hout _ (by simp [LEnt.ks]))).trans (by rw [hx.q.at', hx.q.els])
   have hv1 : H1 x.v.k = some (.arr x.v.ver 1 (x.e.value.map byteAV)) := (hL.rest _ hv0.1 (hout _ (by simp [LEnt.ks]))).trans (by rw [hx.v.at', hx.v.els])
   have hko1 : H1 ko = some (.arr ver 7 (xs.map lentAV)) := (hL.rest ko hkn (fun hk => hne (hpre i ko hk))).trans hko
   refine awp_skip ?_
   try simp only [go_sem, seval]
   refine hK2 _ _ _ ?_
   first | clear hK2 K2 | skip
   refine awp_seq_k fun K3 hK3 => ?_
   refine awp_block ?_
   refine awp_reg zs [0, 3, 4, 5] fun K hK => ?_
   try simp only [go_sem, seval, hnth, hko1, Int.toNat_natCast, hlm, Lp.av]
   repeat (first | (refine And.intro ?_ ?_; · first | (simp; omega) | exact hlt) | refine peel ?_)
   refine callK_useK (args' := [.osl x.r.k x.r.ver 0 x.e.row.length]) Tryz.func117 rfl rfl rfl (c_law_longer x.r.k x.r.ver x.e.row.length (x.e.row.map byteAV) (by simp) (by have := hs.1; omega) _ _ (by omega) hr1) ?_ ?_
   rotate_left
   · intro p H' n' h; cases h.1
   rintro r H2 n2 ⟨hr2, hn2, ⟨Y2, hY2, hs2⟩, hrest2⟩
   cases hr2
   have r1 := (hrest2 ko (by omega) (Ne.symm hr0.2)).trans hko1
   try simp only [go_sem, seval, hnth, r1, Int.toNat_natCast, hlm, Lp.av]
   repeat (first | (refine And.intro ?_ ?_; · first | (simp; omega) | exact hlt) | refine peel ?_)
   refine callG_true rfl ?_
   refine callK_useK (args' := [.osl x.q.k x.q.ver 0 x.e.qual.length]) Tryz.func117 rfl rfl rfl (c_law_longer x.q.k x.q.ver x.e.qual.length (x.e.qual.map byteAV) (by simp) (by have := hs.2.1; omega) H2 n2 (by omega) ((hrest2 x.q.k (by omega) (Ne.symm hnd9.1)).trans hq1)) ?_ ?_
   rotate_left
   · intro p H' n' h; cases h.1
   rintro r H3 n3 ⟨hr3, hn3, ⟨Y3, hY3, hs3⟩, hrest3⟩
   cases hr3
   have r1 := (hrest3 ko (by omega) (Ne.symm hq0.2)).trans r1
   try simp only [go_sem, seval, hnth, r1, Int.toNat_natCast, hlm, Lp.av]
   repeat (first | (refine And.intro ?_ ?_; · first | (simp; omega) | exact hlt) | refine peel ?_)
   refine callG_true rfl ?_
   refine callK_useK (args' := [.osl x.v.k x.v.ver 0 x.e.value.length]) Tryz.func117 rfl rfl rfl (c_law_longer x.v.k x.v.ver x.e.value.length (x.e.value.map byteAV) (by simp) (by have := hs.2.2; omega) H3 n3 (by omega) ((hrest3 x.v.k (by omega) (Ne.symm hnd9.2.2)).trans ((hrest2 x.v.k (by omega) (Ne.symm hnd9.2.1)).trans hv1))) ?_ ?_
   rotate_left
   · intro p H' n' h; cases h.1
   rintro r H4 n4 ⟨hr4, hn4, ⟨Y4, hY4, hs4⟩, hrest4⟩
   cases hr4
   try simp only [go_sem, seval]
   repeat (first | (refine And.intro ?_ ?_; · first | (simp; omega) | exact hlt) | refine peel ?_)
   refine hK _ _ _ ?_; clear hK K
   refine awp_rq zs [0, 3, 4, 41] ?_
   refine awp_cnd (fun hb => ?_) (fun hb => ?_)
   ·skip
    exact absurd hb (by simp)
    --dead
   ·skip
    refine awp_skip ?_
    try simp only [go_sem, seval]
    refine hK3 _ _ _ ?_
    first | clear hK3 K3 | skip
    refine awp_reg1 zs [0, 3, 4] fun K hK => ?_
    try simp only [go_sem, seval]
    refine hK _ _ _ ?_; clear hK K
    try simp only [go_sem, seval]
    refine ⟨⟨i + 1, by omega, by rw [w1 (by omega)], by omega, fun y hy => ?_, fun k hk hk2 => ?_⟩, by rw [w1 (by omega)]; simp; omega⟩
    · have hyk : ∀ j ∈ y.ks, j < n := fun j hj => (hm.in' (List.mem_flatMap.2 ⟨y, hy, hj⟩)).2
      have g1 := (hL.lg y hy).grow hr1 hY2 hs2 hrest2 (fun j hj => by have := hyk j hj; omega)
      have g2 := g1.grow ((hrest2 x.q.k (by omega) (Ne.symm hnd9.1)).trans hq1) hY3 hs3 hrest3 (fun j hj => by have := hyk j hj; omega)
      exact g2.grow ((hrest3 x.v.k (by omega) (Ne.symm hnd9.2.2)).trans ((hrest2 x.v.k (by omega) (Ne.symm hnd9.2.1)).trans hv1)) hY4 hs4 hrest4 (fun j hj => by have := hyk j hj; omega)
    · rw [hks, List.mem_append, not_or] at hk2
      obtain ⟨hk3, hk4⟩ := hk2
      simp only [LEnt.ks, List.mem_cons, List.not_mem_nil, or_false, not_or] at hk4
      rw [hrest4 k (by omega) hk4.2.2, hrest3 k (by omega) hk4.2.1, hrest2 k (by omega) hk4.1]
      exact hL.rest k hk hk3
  ·skip
   have hge : i = xs.length := by simp at hb; omega
   have hle := hL.le
   have hko1 : H1 ko = some (.arr ver 7 (xs.map lentAV)) := (hL.rest ko hkn (fun hk => hne (hpre i ko hk))).trans hko
   have hsame : Ret Tryz.prog 17 [.osl ko ver 0 xs.length, .sl 7 ((xs.map (·.e)).map entAV)] H1 n1 (.bool true) H1 n1 := by
     obtain ⟨ys, g1, g2, g3⟩ := les_ok (n := n1) xs hL.lg (fun k hk => by have := (hm.in' hk).2; omega)
     have h := c_ref3_SameAll (xs.map (·.e)) (xs.map (·.e)) (by simp; omega) (fun _ => none) 0
     rw [show decide (xs.map (·.e) = xs.map (·.e)) = true by simp] at h
     have hfz := LList.frz (H := H1) (n := n1) (p := ⟨ko, ver, xs.map lentAV⟩) (l := ys) ⟨by show ko < n1; omega, hko1, by rw [← g1]; simp, by rw [← g1]; exact List.take_of_length_le (by simp), g3⟩
     have hyl : ys.length = xs.length := by have := congrArg List.length g1; simpa using this
     rw [hyl, g2] at hfz
     exact Ret.lend trivial (.cons hfz (.cons (.kl (kls_ents _ 0)) .nil)) h
   refine awp_exit ?_
   try simp only [go_sem, seval]
   refine hK1 _ _ _ ?_
   first | clear hK1 K1 | skip
   refine awp_seq_k fun K4 hK4 => ?_
   refine awp_reg zs [0, 45] fun K hK => ?_
   try simp only [go_sem, seval]
   refine callK_use Tryz.func17 rfl rfl rfl (hsame) ?_
   try simp only [go_sem, seval]
   refine hK _ _ _ ?_; clear hK K
   refine awp_cnd (fun hb => ?_) (fun hb => ?_)
   ·skip
    exact absurd hb (by simp)
    --dead
   ·skip
    refine awp_skip ?_
    try simp only [go_sem, seval]
    refine hK4 _ _ _ ?_
    first | clear hK4 K4 | skip
    refine awp_seq_k fun K5 hK5 => ?_
    refine awp_rq zs [0, 6] ?_
    refine awp_block ?_
    refine awp_loop (fun T' H' n' => ∃ (i : Nat) (ez : List AV), i ≤ xs.length ∧ T' = tl [(0, .osl ko ver 0 xs.length), (6, .int .i64 i)] ∧ Fil xs ko ver i ez H n H' n') (fun T' _ _ => xs.length - iv (T' 6)) ?_ ?_
    ·skip
     exact ⟨0, xs.map lentAV, Nat.zero_le _, rfl, hle, hko1, by simp, fun j _ hj => nth_map lentAV xs j hj, fun x hx => (hL.lg x hx).sh, fun k h1 h2 h3 => hL.rest k h1 (fun hk => h3 (hpre _ k hk))⟩
    intro T1 H1 n1
    rintro ⟨i, ez, hi, rfl, hF⟩
    refine awp_seq_k fun K6 hK6 => ?_
    refine awp_rq zs [0, 6, 49] ?_
    refine awp_cnd (fun hb => ?_) (fun hb => ?_)
    ·skip
     have hlt : i < xs.length := by simpa using hb
     have hnz : nth ez i = lentAV (xs.getD i default) := hF.nth i (Nat.le_refl _) hlt
     have hmem : xs.getD i default ∈ xs := by simp [List.getD, List.getElem?_eq_getElem hlt]
     have hzl := hF.len
     generalize xs.getD i default = x at *
     have hs := hsm x hmem
     have hs1 : x.e.row.length ≤ 256 := hs.1
     have hs2 : x.e.qual.length ≤ 256 := hs.2.1
     have hs3 : x.e.value.length ≤ 4096 := hs.2.2
     refine awp_skip ?_
     try simp only [go_sem, seval]
     refine hK6 _ _ _ ?_
     first | clear hK6 K6 | skip
     refine awp_seq_k fun K7 hK7 => ?_
     refine awp_block ?_
     refine awp_seq_k fun K8 hK8 => ?_
     refine awp_rq zs [0, 6, 7] ?_
     refine awp_block ?_
     refine awp_loop (fun T' H' n' => ∃ j : Nat, j ≤ x.e.row.length ∧ T' = tl [(0, .osl ko ver 0 xs.length), (6, .int .i64 i), (7, .int .i64 j)] ∧ Fil xs ko ver i ez H n H' n') (fun T' _ _ => x.e.row.length - iv (T' 7)) ?_ ?_
     ·skip
      exact ⟨0, Nat.zero_le _, rfl, hF⟩
     intro T1 H1 n1
     rintro ⟨j, hj, rfl, hF⟩
     have hko2 := hF.at'
     refine awp_seq_k fun K9 hK9 => ?_
     refine awp_reg zs [0, 6, 7, 59] fun K hK => ?_
     try simp only [go_sem, seval, hko2, hnz, Int.toNat_natCast, hzl, Lp.av]
     repeat (first | (refine And.intro ?_ ?_; · first | (simp; omega) | omega) | refine peel ?_)
     refine hK _ _ _ ?_; clear hK K
     refine awp_cnd (fun hb => ?_) (fun hb => ?_)
     ·skip
      have hltj : j < x.e.row.length := by simpa using hb
      obtain ⟨els, e1, e2, e3⟩ := (hF.sh x hmem).r
      refine awp_skip ?_
      try simp only [go_sem, seval]
      refine hK9 _ _ _ ?_
      first | clear hK9 K9 | skip
      refine awp_seq_k fun K10 hK10 => ?_
      refine awp_block ?_
      refine awp_reg1 zs [0, 6, 7] fun K hK => ?_
      try simp only [go_sem, seval, hko2, hnz, Int.toNat_natCast, hzl, Lp.av, e1]
      repeat (first | (refine And.intro ?_ ?_; · first | exact ⟨by omega, e3 _ (nth_in (by omega))⟩ | (simp; omega) | omega) | refine peel ?_)
      refine hK _ _ _ ?_; clear hK K
      try simp only [go_sem, seval]
      refine hK10 _ _ _ ?_
      first | clear hK10 K10 | skip
      refine awp_reg1 zs [0, 6, 7] fun K hK => ?_
      try simp only [go_sem, seval]
      refine hK _ _ _ ?_; clear hK K
      try simp only [go_sem, seval]
      exact ⟨⟨j + 1, by omega, by rw [w1 (by omega)], hF.put e1 (List.mem_flatMap.2 ⟨x, hmem, by simp [LEnt.ks]⟩) (by simp) (sz1_set e3 rfl)⟩, by rw [w1 (by omega)]; simp; omega⟩
     ·skip
      skip
      refine awp_exit ?_
      try simp only [go_sem, seval]
      refine hK8 _ _ _ ?_
      first | clear hK8 K8 | skip
      refine awp_seq_k fun K11 hK11 => ?_
      refine awp_rq zs [0, 6, 8] ?_
      refine awp_block ?_
      refine awp_loop (fun T' H' n' => ∃ j : Nat, j ≤ x.e.qual.length ∧ T' = tl [(0, .osl ko ver 0 xs.length), (6, .int .i64 i), (8, .int .i64 j)] ∧ Fil xs ko ver i ez H n H' n') (fun T' _ _ => x.e.qual.length - iv (T' 8)) ?_ ?_
      ·skip
       exact ⟨0, Nat.zero_le _, rfl, hF⟩
      intro T1 H1 n1
      rintro ⟨j, hj, rfl, hF⟩
      have hko2 := hF.at'
      refine awp_seq_k fun K12 hK12 => ?_
      refine awp_reg zs [0, 6, 8, 76] fun K hK => ?_
      try simp only [go_sem, seval, hko2, hnz, Int.toNat_natCast, hzl, Lp.av]
      repeat (first | (refine And.intro ?_ ?_; · first | (simp; omega) | omega) | refine peel ?_)
      refine hK _ _ _ ?_; clear hK K
      refine awp_cnd (fun hb => ?_) (fun hb => ?_)
      ·skip
       have hltj : j < x.e.qual.length := by simpa using hb
       obtain ⟨els, e1, e2, e3⟩ := (hF.sh x hmem).q
       refine awp_skip ?_
       try simp only [go_sem, seval]
       refine hK12 _ _ _ ?_
       first | clear hK12 K12 | skip
       refine awp_seq_k fun K13 hK13 => ?_
       refine awp_block ?_
       refine awp_reg1 zs [0, 6, 8] fun K hK => ?_
       try simp only [go_sem, seval, hko2, hnz, Int.toNat_natCast, hzl, Lp.av, e1]
       repeat (first | (refine And.intro ?_ ?_; · first | exact ⟨by omega, e3 _ (nth_in (by omega))⟩ | (simp; omega) | omega) | refine peel ?_)
       refine hK _ _ _ ?_; clear hK K
       try simp only [go_sem, seval]
       refine hK13 _ _ _ ?_
       first | clear hK13 K13 | skip
       refine awp_reg1 zs [0, 6, 8] fun K hK => ?_
       try simp only [go_sem, seval]
       refine hK _ _ _ ?_; clear hK K
       try simp only [go_sem, seval]
       exact ⟨⟨j + 1, by omega, by rw [w1 (by omega)], hF.put e1 (List.mem_flatMap.2 ⟨x, hmem, by simp [LEnt.ks]⟩) (by simp) (sz1_set e3 rfl)⟩, by rw [w1 (by omega)]; simp; omega⟩
      ·skip
       skip
       refine awp_exit ?_
       try simp only [go_sem, seval]
       refine hK11 _ _ _ ?_
       first | clear hK11 K11 | skip
       refine awp_seq_k fun K14 hK14 => ?_
       refine awp_rq zs [0, 6, 9] ?_
       refine awp_block ?_
       refine awp_loop (fun T' H' n' => ∃ j : Nat, j ≤ x.e.value.length ∧ T' = tl [(0, .osl ko ver 0 xs.length), (6, .int .i64 i), (9, .int .i64 j)] ∧ Fil xs ko ver i ez H n H' n') (fun T' _ _ => x.e.value.length - iv (T' 9)) ?_ ?_
       ·skip
        exact ⟨0, Nat.zero_le _, rfl, hF⟩
       intro T1 H1 n1
       rintro ⟨j, hj, rfl, hF⟩
       have hko2 := hF.at'
       refine awp_seq_k fun K15 hK15 => ?_
       refine awp_reg zs [0, 6, 9, 93] fun K hK => ?_
       try simp only [go_sem, seval, hko2, hnz, Int.toNat_natCast, hzl, Lp.av]
       repeat (first | (refine And.intro ?_ ?_; · first | (simp; omega) | omega) | refine peel ?_)
       refine hK _ _ _ ?_; clear hK K
       refine awp_cnd (fun hb => ?_) (fun hb => ?_)
       ·skip
        have hltj : j < x.e.value.length := by simpa using hb
        obtain ⟨els, e1, e2, e3⟩ := (hF.sh x hmem).v
        refine awp_skip ?_
        try simp only [go_sem, seval]
        refine hK15 _ _ _ ?_
        first | clear hK15 K15 | skip
        refine awp_seq_k fun K16 hK16 => ?_
        refine awp_block ?_
        refine awp_reg1 zs [0, 6, 9] fun K hK => ?_
        try simp only [go_sem, seval, hko2, hnz, Int.toNat_natCast, hzl, Lp.av, e1]
        repeat (first | (refine And.intro ?_ ?_; · first | exact ⟨by omega, e3 _ (nth_in (by omega))⟩ | (simp; omega) | omega) | refine peel ?_)
        refine hK _ _ _ ?_; clear hK K
        try simp only [go_sem, seval]
        refine hK16 _ _ _ ?_
        first | clear hK16 K16 | skip
        refine awp_reg1 zs [0, 6, 9] fun K hK => ?_
        try simp only [go_sem, seval]
        refine hK _ _ _ ?_; clear hK K
        try simp only [go_sem, seval]
        exact ⟨⟨j + 1, by omega, by rw [w1 (by omega)], hF.put e1 (List.mem_flatMap.2 ⟨x, hmem, by simp [LEnt.ks]⟩) (by simp) (sz1_set e3 rfl)⟩, by rw [w1 (by omega)]; simp; omega⟩
       ·skip
        skip
        refine awp_exit ?_
        try simp only [go_sem, seval]
        refine hK14 _ _ _ ?_
        first | clear hK14 K14 | skip
        refine awp_reg1 zs [0, 6] fun K hK => ?_
        try simp only [go_sem, seval, hko2, hnz, Int.toNat_natCast, hzl]
        repeat (first | (refine And.intro ?_ ?_; · first | exact ⟨by omega, by rw [hnz]; rfl⟩ | (simp; omega) | omega) | refine peel ?_)
        refine hK _ _ _ ?_; clear hK K
        try simp only [go_sem, seval]
        refine hK7 _ _ _ ?_
        first | clear hK7 K7 | skip
        refine awp_reg1 zs [0, 6] fun K hK => ?_
        try simp only [go_sem, seval]
        refine hK _ _ _ ?_; clear hK K
        try simp only [go_sem, seval]
        exact ⟨⟨i + 1, _, by omega, by rw [w1 (by omega)], hF.next _⟩, by rw [w1 (by omega)]; simp; omega⟩
    ·skip
     skip
     refine awp_exit ?_
     try simp only [go_sem, seval]
     refine hK5 _ _ _ ?_
     first | clear hK5 K5 | skip
     refine awp_rq zs [2] ?_
     refine awp_ret ?_
     try simp only [go_sem, seval]
     exact ⟨hF.le, hF.rest⟩
end Go.Proofs.YtijhkfhflpmajaaGreat
namespace Go.Proofs.YtijhkfhflpmajaaGreat
open Go Go.Sx Go.Rt Go.Proofs
structure Cas where
  s : List Fml
  clock : Int
  major : Bool
  low : Int
  t : Int
  n : Int
def casAV (c : Cas) : AV := .agg [schAV c.s, .int .i64 c.clock, .bool c.major, .int .i64 c.low, .int .i64 c.t, .int .i64 c.n]
def flowAV (F R I O : AV) (last : Ent) (has : Bool) (D : AV) : AV := .agg [F, R, I, O, entAV last, .bool has, D]
theorem c_ref3_Pushable (s : List Fml) (last : Ent) (hf : last.fits) (has : Bool) (e : Ent) (H : Heap) (n : Nat) : Ret Tryz.prog 95 [schAV s, entAV last, .bool has, entAV e] H n (.int .i64 (pushableE s last has e)) H n := by
  refine Ret.fin ?_
  refine acalls_of_awp Tryz.func95 rfl Tryz.ntmps95 (congrArg Array.toList Tryz.results95) (by simp) ?_
  simp only [go_sem]
  refine awp_rq zs [2, 4, 5, 7] ?_
  refine awp_reg zs [2, 4, 5, 7, 9] fun K hK => ?_
  try simp only [go_sem, seval]
  refine callK_use Tryz.func67 rfl rfl rfl ((c_ref2_Check e _ _)) ?_
  try simp only [go_sem, seval]
  refine hK _ _ _ ?_; clear hK K
  refine awp_seq_k fun K1 hK1 => ?_
  refine awp_rq zs [2, 4, 5, 7, 9, 15] ?_
  refine awp_cnd (fun hb => ?_) (fun hb => ?_)
  ·skip
   have h1 : checkE e ≠ 0 := by simpa using hb
   have hq : pushableE s last has e = checkE e := by unfold pushableE; rw [if_pos h1]
   refine awp_rq zs [8] ?_
   refine awp_ret ?_
   try simp only [go_sem, seval]
   rw [hq]
   refine ⟨_, rfl, fun k hk => ?_, .kl trivial⟩
   have h0 : k ≠ n := by omega
   have h1 : k ≠ n + 1 := by omega
   have h2 : k ≠ n + 2 := by omega
   simp [Heap.put, h0, h1, h2]
  ·skip
   have h1 : ¬ checkE e ≠ 0 := by simpa using hb
   refine awp_skip ?_
   try simp only [go_sem, seval]
   refine hK1 _ _ _ ?_
   first | clear hK1 K1 | skip
   refine awp_seq_k fun K2 hK2 => ?_
   refine awp_rq zs [2, 5, 7, 22] ?_
   refine awp_cnd (fun hb => ?_) (fun hb => ?_)
   ·skip
    have h2 : (s.length : Int) ≤ e.fam := by simpa using hb
    have hq : pushableE s last has e = 21 := by unfold pushableE; rw [if_neg h1, if_pos h2]
    refine awp_rq zs [8] ?_
    refine awp_ret ?_
    try simp only [go_sem, seval]
    rw [hq]
    refine ⟨_, rfl, fun k hk => ?_, .kl trivial⟩
    have h0 : k ≠ n := by omega
    have h1 : k ≠ n + 1 := by omega
    have h2 : k ≠ n + 2 := by omega
    simp [Heap.put, h0, h1, h2]
   ·skip
    have h2 : ¬ (s.length : Int) ≤ e.fam := by simpa using hb
    refine awp_skip ?_
    try simp only [go_sem, seval]
    refine hK2 _ _ _ ?_
    first | clear hK2 K2 | skip
    refine awp_seq_k fun K3 hK3 => ?_
    refine awp_rq zs [5, 7, 24] ?_
    refine awp_cnd (fun hb => ?_) (fun hb => ?_)
    ·skip
     have h3 : has = false := by simpa using hb
     have hq : pushableE s last has e = 0 := by unfold pushableE; rw [if_neg h1, if_neg h2, if_pos h3]
     refine awp_rq zs [8] ?_
     refine awp_ret ?_
     try simp only [go_sem, seval]
     rw [hq]
     refine ⟨_, rfl, fun k hk => ?_, .kl trivial⟩
     have h0 : k ≠ n := by omega
     have h1 : k ≠ n + 1 := by omega
     have h2 : k ≠ n + 2 := by omega
     simp [Heap.put, h0, h1, h2]
    ·skip
     have h3 : ¬ has = false := by simpa using hb
     refine awp_skip ?_
     try simp only [go_sem, seval]
     refine hK3 _ _ _ ?_
     first | clear hK3 K3 | skip
     refine awp_reg zs [5, 7, 10] fun K hK => ?_
     try simp only [go_sem, seval]
     refine callK_use Tryz.func68 rfl rfl rfl ((c_ref2_Compare last e hf _ _)) ?_
     try simp only [go_sem, seval]
     refine hK _ _ _ ?_; clear hK K
     refine awp_reg zs [5, 7, 10, 11] fun K hK => ?_
     try simp only [go_sem, seval]
     refine callK_use Tryz.func32 rfl rfl rfl ((c_ref3_Same last e _ _)) ?_
     try simp only [go_sem, seval]
     refine hK _ _ _ ?_; clear hK K
     refine awp_seq_k fun K4 hK4 => ?_
     refine awp_block ?_
     refine awp_rq zs [5, 7, 10, 11, 31] ?_
     refine awp_cnd (fun hb => ?_) (fun hb => ?_)
     ·skip
      have h4 : 0 < compE last e := by simpa using hb
      have hq : pushableE s last has e = 30 := by unfold pushableE; rw [if_neg h1, if_neg h2, if_neg h3, if_pos h4]
      refine awp_rq zs [8] ?_
      refine awp_ret ?_
      try simp only [go_sem, seval]
      rw [hq]
      refine ⟨_, rfl, fun k hk => ?_, .kl trivial⟩
      have h0 : k ≠ n := by omega
      have h1 : k ≠ n + 1 := by omega
      have h2 : k ≠ n + 2 := by omega
      simp [Heap.put, h0, h1, h2]
     ·skip
      have h4 : ¬ 0 < compE last e := by simpa using hb
      refine awp_rq zs [34] ?_
      refine awp_cnd (fun hb => ?_) (fun hb => ?_)
      ·skip
       have h5 : last ≠ e ∧ (compE last e = 0 ∨ last.seq = e.seq) := by cases h9 : (compE last e == 0) <;> simp_all [sameE]
       have hq : pushableE s last has e = 31 := by unfold pushableE; rw [if_neg h1, if_neg h2, if_neg h3, if_neg h4, if_pos h5]
       refine awp_rq zs [8] ?_
       refine awp_ret ?_
       try simp only [go_sem, seval]
       rw [hq]
       refine ⟨_, rfl, fun k hk => ?_, .kl trivial⟩
       have h0 : k ≠ n := by omega
       have h1 : k ≠ n + 1 := by omega
       have h2 : k ≠ n + 2 := by omega
       simp [Heap.put, h0, h1, h2]
      ·skip
       have h5 : ¬ (last ≠ e ∧ (compE last e = 0 ∨ last.seq = e.seq)) := by cases h9 : (compE last e == 0) <;> simp_all [sameE]
       have hq : pushableE s last has e = 0 := by unfold pushableE; rw [if_neg h1, if_neg h2, if_neg h3, if_neg h4, if_neg h5]
       refine awp_skip ?_
       try simp only [go_sem, seval]
       refine hK4 _ _ _ ?_
       first | clear hK4 K4 | skip
       refine awp_rq zs [8] ?_
       refine awp_ret ?_
       try simp only [go_sem, seval]
       rw [hq]
       refine ⟨_, rfl, fun k hk => ?_, .kl trivial⟩
       have h0 : k ≠ n := by omega
       have h1 : k ≠ n + 1 := by omega
       have h2 : k ≠ n + 2 := by omega
       simp [Heap.put, h0, h1, h2]
theorem c_law_begins (a O : List Ent) (hl : a.length < 4611686018427387904) (kO vO : Nat) (H : Heap) (n : Nat) (hO : H kO = some (.arr vO 7 (O.map entAV))) (h : ∃ o, O = a ++ o) : Ret Tryz.prog 96 [entsAV a, .osl kO vO 0 O.length] H n (.bool true) H n := by
  obtain ⟨o, ho⟩ := h
  have hlO : a.length ≤ O.length := by rw [ho]; simp
  have hs : Ret Tryz.prog 17 [.sl 7 (a.map entAV), .osl kO vO 0 a.length] H n (.bool true) H n := by
    have h9 := c_ref3_SameAll a a hl (fun _ => none) 0
    rw [show decide (a = a) = true by simp] at h9
    refine Ret.lend trivial (.cons (.kl (kls_ents a 0)) (.cons ?_ .nil)) h9
    exact .osl hO (Nat.zero_le _) (by simp; omega) (by rw [List.drop_zero, ← List.map_take, ho, List.take_left']; exact frzL_kl _ (kls_ents a 0); rfl)
  refine acalls_of_awp Tryz.func96 rfl Tryz.ntmps96 (congrArg Array.toList Tryz.results96) (by simp) ?_
  simp only [go_sem]
  refine awp_rq zs [0, 1] ?_
  refine awp_reg zs [4] fun K hK => ?_
  try simp only [go_sem, seval, hO, List.length_map]
  repeat (first | (refine And.intro ?_ ?_; · first | (simp; omega) | exact ⟨by omega, by omega⟩) | refine peel ?_)
  refine callG_use Tryz.func17 rfl rfl rfl (fun _ => hs) ?_
  try simp only [go_sem, seval]
  repeat (first | (refine And.intro ?_ ?_; · first | (simp; omega) | exact ⟨by omega, by omega⟩) | refine peel ?_)
  refine hK _ _ _ ?_; clear hK K
  refine awp_ret ?_
  try simp only [go_sem, seval]
  simp [hlO]
theorem c_law_clashes (kx : Nat) (F R O D : AV) (hF : F.sz = 1) (hR : R.sz = 1) (last : Ent) (has : Bool) (kI vI : Nat) (I : List Ent) (hl : I.length ≤ 1000000000) (e : Ent) (H : Heap) (n : Nat) (hkx : kx < n) (hkI : kI < n) (hx : H kx = some (.arr 0 17 [flowAV F R (.osl kI vI 0 I.length) O last has D])) (hI : H kI = some (.arr vI 7 (I.map entAV))) :
    Ret Tryz.prog 92 [.loc kx 0 0 0 [], entAV e] H n (.bool (clashB I e)) H n := by
  simp only [flowAV] at hx
  have q1 : (kx = n) = False := by simp; omega
  have q2 : (kI = n) = False := by simp; omega
  have hdl : I.dropLast.length = I.length - 1 := List.length_dropLast
  refine Ret.fin ?_
  refine acalls_of_awp Tryz.func92 rfl Tryz.ntmps92 (congrArg Array.toList Tryz.results92) (by simp) ?_
  simp only [go_sem]
  refine awp_rq zs [0, 3] ?_
  refine awp_seq_k fun K1 hK1 => ?_
  refine awp_rq zs [0, 3, 5] ?_
  refine awp_block ?_
  refine awp_loop (fun T' H' n' => ∃ i : Nat, i ≤ I.length - 1 ∧ T' = tl [(0, .loc kx 0 0 0 []), (3, .loc n 0 0 0 []), (5, .int .i64 i)] ∧ H' = H.put n (some (.arr 0 7 [entAV e])) ∧ n' = n + 1 ∧ (I.dropLast.drop i).any (fun x => x.seq == e.seq && !sameE x e) = clashB I e) (fun T' _ _ => I.length - 1 - iv (T' 5)) ?_ ?_
  ·skip
   exact ⟨0, Nat.zero_le _, rfl, rfl, rfl, rfl⟩
  intro T1 H1 n1
  rintro ⟨i, hi, rfl, rfl, rfl, hd⟩
  have hwi : IntKind.i64.wrap ((i : Int) + 1) = ((i + 1 : Nat) : Int) := w1 (by omega)
  refine awp_seq_k fun K2 hK2 => ?_
  refine awp_reg zs [0, 3, 5, 13] fun K hK => ?_
  try simp only [go_sem, seval, hx, q1, hwi, hF, hR]
  refine hK _ _ _ ?_; clear hK K
  refine awp_cnd (fun hb => ?_) (fun hb => ?_)
  ·skip
   have hlt : i + 1 < I.length := by simp at hb; omega
   have hlt2 : i < I.dropLast.length := by omega
   rw [drop_cons I.dropLast i hlt2, List.any_cons] at hd
   have hnth : nth (I.map entAV) i = entAV (I.dropLast.getD i default) := by rw [nth_map entAV I i (by omega)]; congr 1; simp [List.getD, List.getElem?_eq_getElem hlt2, List.getElem?_eq_getElem (show i < I.length by omega)]
   generalize I.dropLast.getD i default = x at *
   refine awp_skip ?_
   try simp only [go_sem, seval]
   refine hK2 _ _ _ ?_
   first | clear hK2 K2 | skip
   refine awp_seq_k fun K3 hK3 => ?_
   refine awp_block ?_
   refine awp_drw rfl zs [0, 3, 5, 38] [.m, .q, .q, .q, .m, .q, .q, .q, .q, .q, .q, .m, .m, .q, .q, .q, .m, .q, .q, .q, .c, .q, .q] (by kernel_rfl) (fun _ _ _ _ _ h => h) fun K hK => ?_
   try simp only [go_sem, seval, hF, hR, hx, hI, q1, q2, hnth, Int.toNat_natCast, List.length_map]
   repeat (first | (refine And.intro ?_ ?_; · first | (simp; omega) | omega | (intro _; simp; omega)) | refine peel ?_)
   refine callQG_use Tryz.func32 rfl rfl rfl (fun _ n => (c_ref3_Same x e _ _)) ?_
   try simp only [go_sem, seval]
   repeat (first | (refine And.intro ?_ ?_; · first | (simp; omega) | omega | (intro _; simp; omega)) | refine peel ?_)
   refine hK _ _ _ ?_; clear hK K
   refine awp_cnd (fun hb => ?_) (fun hb => ?_)
   ·skip
    have hc : (x.seq == e.seq && !sameE x e) = true := by cases h9 : (x.seq == e.seq) <;> simp_all
    have hq : clashB I e = true := by rw [← hd, hc]; rfl
    refine awp_rq zs [4] ?_
    refine awp_ret ?_
    try simp only [go_sem, seval]
    rw [hq]
    exact ⟨_, rfl, fun k hk => Heap.put_ne _ _ (by omega), .kl trivial⟩
   ·skip
    have hc : (x.seq == e.seq && !sameE x e) = false := by cases h9 : (x.seq == e.seq) <;> simp_all
    rw [hc, Bool.false_or] at hd
    refine awp_skip ?_
    try simp only [go_sem, seval]
    refine hK3 _ _ _ ?_
    first | clear hK3 K3 | skip
    refine awp_reg1 zs [0, 3, 5] fun K hK => ?_
    try simp only [go_sem, seval]
    refine hK _ _ _ ?_; clear hK K
    try simp only [go_sem, seval]
    exact ⟨⟨i + 1, by omega, by rw [w1 (by omega)], hd⟩, by rw [w1 (by omega)]; simp; omega⟩
  ·skip
   have hge : I.dropLast.length ≤ i := by simp at hb; omega
   have hq : clashB I e = false := by rw [← hd, List.drop_eq_nil_of_le hge]; rfl
   refine awp_exit ?_
   try simp only [go_sem, seval]
   refine hK1 _ _ _ ?_
   first | clear hK1 K1 | skip
   refine awp_rq zs [4] ?_
   refine awp_ret ?_
   try simp only [go_sem, seval]
   rw [hq]
   exact ⟨_, rfl, fun k hk => Heap.put_ne _ _ (by omega), .kl trivial⟩
end Go.Proofs.YtijhkfhflpmajaaGreat