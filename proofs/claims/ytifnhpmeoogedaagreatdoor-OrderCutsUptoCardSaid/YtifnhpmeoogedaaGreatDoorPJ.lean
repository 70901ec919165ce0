/- Own layer: walks through Check and Encode of the order's document. Of the program; no condition. -/
import Derived.Test.YtifnhpmeoogedaaGreatDoorPI
import Derived.Test.YtifnhpmeoogedaaGreatDoorPH
import Derived.Test.YtifnhpmeoogedaaGreatDoorPG
set_option linter.unusedSimpArgs false
set_option linter.unusedVariables false
namespace Go.Proofs.YtifnhpmeoogedaaGreatDoor
open Go Go.Sx Go.Rt Go.Proofs Tryz
theorem listsE_cb (nf : Nat) (c : CmdE) : YL nf c = if cb5 c then 20 else if cb6 nf c then 146 else if cb7 c then 144 else if cb8 nf c then 145 else 0 := by
 unfold YL cb5 cb6 cb7 cb8 kOps
 by_cases h4 : c.kind = 4
 ·simp only [h4]
  by_cases h1 : bout c.row.length 1 256 = true <;> by_cases h2 : 8 < c.conds.length <;> by_cases h3 : c.conds.all (XB nf) = true <;> by_cases h5 : bout c.ops.length 1 16 = true <;> by_cases h6 : c.ops.all (opOK nf) = true <;> grind
 ·by_cases h1 : 0 < c.row.length <;> by_cases h2 : 0 < c.conds.length <;> by_cases h3 : 0 < c.ops.length <;> grind
theorem schemaE_or (s : List Fml) : Z8 s = 0 ∨ Z8 s = 28 := by unfold Z8; split <;> simp <;> split <;> simp
set_option maxRecDepth 100000 in
set_option maxHeartbeats 6400000 in
theorem c_ref14_Check (s : List Fml) (hs : s.length ≤ 2000000) (c : CmdE) (hc : c.fits) (qc : Int) (hq : Yd c.kind = true → ∀ H n, Ret prog 61 [Zt s, Zq c.q] H n (.int .i64 qc) H n) (H : Heap) (n : Nat) :
   Ret prog 16 [Zt s, Zh c] H n (.int .i64 (ZB qc s c)) H n := by
 have hszq := Yj c.q
 have haq : (Zq c.q).isAgg = true := rfl
 have hmq : (Zq c.q).memOK = true := rfl
 have hszs : (Zt s).sz = 1 := rfl
 have hags : (Zt s).isAgg = true := rfl
 have hmos : (Zt s).memOK = true := rfl
 refine Ret.fin ?_
 refine Zc func16 rfl ntmps16 (congrArg Array.toList results16) (by simp) ?_
 simp only [go_sem]
 refine Za zs [2, 3] fun K Y => ?_
 simp only [go_sem, seval, Zh, hszq]
 apply Y; clear Y K
 refine Za zs [2, 3, 5] fun K Y => ?_
 simp only [go_sem, seval]
 refine Zg func56 rfl rfl rfl ((Q5 s _ _)) ?_
 simp only [go_sem, seval]
 apply Y; clear Y K
 refine Zb fun K1 hK1 => ?_
 refine Za zs [2, 3, 5, 9] fun K Y => ?_
 simp only [go_sem, seval]
 apply Y; clear Y K
 refine Ze ?_ ?_ <;> intro hb
 ·have g0 : Z8 s = 28 := by rcases schemaE_or s with h | h <;> simp_all
  have hd : Z8 s = ZB qc s c := by unfold ZB; simp [g0]
  refine Za zs [4] fun K Y => ?_
  simp only [go_sem, seval]
  apply Y; clear Y K
  refine Zf ?_
  simp only [go_sem, seval]
  refine ⟨_, rfl, fun k hk => ?_, Frz.eq (congrArg (AV.int .i64) hd) trivial⟩
  (repeat rw [if_neg (by omega)])
 have g0 : Z8 s = 0 := by simpa using hb
 refine Zd ?_
 simp only [go_sem, seval]
 apply hK1
 clear hK1 K1
 refine Zb fun K2 hK2 => ?_
 refine Za zs [2, 3, 13] fun K Y => ?_
 simp only [go_sem, seval]
 refine Zg func57 rfl rfl rfl ((Yo c.kind 1 7 _ _)) ?_
 apply Y; clear Y K
 refine Ze ?_ ?_ <;> intro hb
 ·have g1 : bout c.kind 1 7 = true := hb
  have hd : 141 = ZB qc s c := by unfold ZB; simp [g0, g1]
  refine Za zs [4] fun K Y => ?_
  simp only [go_sem, seval]
  apply Y; clear Y K
  refine Zf ?_
  simp only [go_sem, seval]
  refine ⟨_, rfl, fun k hk => ?_, Frz.eq (congrArg (AV.int .i64) hd) trivial⟩
  (repeat rw [if_neg (by omega)])
 have g1 : bout c.kind 1 7 = false := hb
 have hk := Wn g1
 refine Zd ?_
 simp only [go_sem, seval]
 apply hK2
 clear hK2 K2
 refine Zb fun K3 hK3 => ?_
 refine Za zs [2, 3, 16] fun K Y => ?_
 simp only [go_sem, seval, hszq]
 refine Zg func58 rfl rfl rfl ((Mj c _ _)) ?_
 simp only [go_sem, seval]
 apply Y; clear Y K
 refine Ze ?_ ?_ <;> intro hb
 ·have g2 : cb3 c = true := by simpa using hb
  have hd : 142 = ZB qc s c := by unfold ZB; simp [g0, g1, g2]
  refine Za zs [4] fun K Y => ?_
  simp only [go_sem, seval]
  apply Y; clear Y K
  refine Zf ?_
  simp only [go_sem, seval]
  refine ⟨_, rfl, fun k hk => ?_, Frz.eq (congrArg (AV.int .i64) hd) trivial⟩
  (repeat rw [if_neg (by omega)])
 have g2 : cb3 c = false := by simpa using hb
 refine Zd ?_
 simp only [go_sem, seval]
 apply hK3
 clear hK3 K3
 refine Zb fun K4 hK4 => ?_
 refine Za zs [2, 3, 28] fun K Y => ?_
 simp only [go_sem, seval]
 refine Zg func57 rfl rfl rfl ((Yo c.serial 0 1099511627776 _ _)) ?_
 simp only [go_sem, seval]
 repeat refine peel ?_
 apply Y; clear Y K
 refine Ze ?_ ?_ <;> intro hb
 ·have g3 : cb4 c = true := by unfold cb4; grind
  have hd : 143 = ZB qc s c := by unfold ZB; simp [g0, g1, g2, g3]
  refine Za zs [4] fun K Y => ?_
  simp only [go_sem, seval]
  apply Y; clear Y K
  refine Zf ?_
  simp only [go_sem, seval]
  refine ⟨_, rfl, fun k hk => ?_, Frz.eq (congrArg (AV.int .i64) hd) trivial⟩
  (repeat rw [if_neg (by omega)])
 have g3 : cb4 c = false := by unfold cb4; grind
 refine Zd ?_
 simp only [go_sem, seval]
 apply hK4
 clear hK4 K4
 refine Za zs [2, 3, 5] fun K Y => ?_
 simp only [go_sem, seval, hszq]
 refine Zg func59 rfl rfl rfl ((c_ref14_lists s hs c _ _)) ?_
 simp only [go_sem, seval]
 apply Y; clear Y K
 refine Zb fun K5 hK5 => ?_
 refine Za zs [2, 3, 5, 33] fun K Y => ?_
 simp only [go_sem, seval]
 apply Y; clear Y K
 refine Ze ?_ ?_ <;> intro hb
 ·have hd : YL s.length c = ZB qc s c := by have h9 : YL s.length c ≠ 0 := (by simpa using hb); rw [listsE_cb] at h9 ⊢; unfold ZB; grind
  refine Za zs [4] fun K Y => ?_
  simp only [go_sem, seval]
  apply Y; clear Y K
  refine Zf ?_
  simp only [go_sem, seval]
  refine ⟨_, rfl, fun k hk => ?_, Frz.eq (congrArg (AV.int .i64) hd) trivial⟩
  (repeat rw [if_neg (by omega)])
 have g4 : YL s.length c = 0 := by simpa using hb
 rw [listsE_cb] at g4
 have g5 : cb5 c = false ∧ cb6 s.length c = false ∧ cb7 c = false ∧ cb8 s.length c = false := by grind
 refine Zd ?_
 simp only [go_sem, seval]
 apply hK5
 clear hK5 K5
 refine Zb fun K6 hK6 => ?_
 refine Za zs [2, 3, 37] fun K Y => ?_
 simp only [go_sem, seval, hszq]
 refine Zg func60 rfl rfl rfl ((Mk c hk.1 _ _)) ?_
 simp only [go_sem, seval]
 apply Y; clear Y K
 refine Ze ?_ ?_ <;> intro hb
 ·have g6 : cb9 c = true := by simpa using hb
  have hd : 148 = ZB qc s c := by unfold ZB; simp [g0, g1, g2, g3, g5, g6]
  refine Za zs [4] fun K Y => ?_
  simp only [go_sem, seval]
  apply Y; clear Y K
  refine Zf ?_
  simp only [go_sem, seval]
  refine ⟨_, rfl, fun k hk => ?_, Frz.eq (congrArg (AV.int .i64) hd) trivial⟩
  (repeat rw [if_neg (by omega)])
 have g6 : cb9 c = false := by simpa using hb
 refine Zd ?_
 simp only [go_sem, seval]
 apply hK6
 clear hK6 K6
 refine Zb fun K7 hK7 => ?_
 refine Za zs [2, 3, 40] fun K Y => ?_
 simp only [go_sem, seval]
 apply Y; clear Y K
 refine Ze ?_ ?_ <;> intro hb
 ·have g7 : Yd c.kind = true := hb
  refine Za zs [3, 5] fun K Y => ?_
  simp only [go_sem, seval, hszq, haq]
  refine Zg func61 rfl rfl rfl ((hq g7 _ _)) ?_
  simp only [go_sem, seval]
  apply Y; clear Y K
  refine Za zs [3, 5, 46] fun K Y => ?_
  simp only [go_sem, seval]
  apply Y; clear Y K
  refine Ze ?_ ?_ <;> intro hb
  ·have g8 : qc ≠ 0 := by simpa using hb
   have hd : qc = ZB qc s c := by unfold ZB; simp [g0, g1, g2, g3, g5, g6, g7, g8]
   refine Za zs [4] fun K Y => ?_
   simp only [go_sem, seval]
   apply Y; clear Y K
   refine Zf ?_
   simp only [go_sem, seval]
   refine ⟨_, rfl, fun k hk => ?_, Frz.eq (congrArg (AV.int .i64) hd) trivial⟩
   (repeat rw [if_neg (by omega)])
  have g8 : qc = 0 := by simpa using hb
  have ht : ZB qc s c = WY c := by unfold ZB; simp [g0, g1, g2, g3, g5, g6, g7, g8]
  refine Zd ?_
  simp only [go_sem, seval]
  apply hK7
  clear hK7 K7
  refine Zb fun K8 hK8 => ?_
  refine Za zs [55] fun K Y => ?_
  simp only [go_sem, seval, hszq]
  refine Zg func63 rfl rfl rfl ((Qa c hc hk.1 hk.2 _ _)) ?_
  simp only [go_sem, seval, List.length_map]
  apply Y; clear Y K
  refine Ze ?_ ?_ <;> intro hb
  ·have hd : 2 = ZB qc s c := by rw [ht]; unfold WY; rw [if_pos (by simpa using hb)]
   refine Za zs [4] fun K Y => ?_
   simp only [go_sem, seval]
   apply Y; clear Y K
   refine Zf ?_
   simp only [go_sem, seval]
   refine ⟨_, rfl, fun k hk => ?_, Frz.eq (congrArg (AV.int .i64) hd) trivial⟩
   (repeat rw [if_neg (by omega)])
  have hd : 0 = ZB qc s c := by rw [ht]; unfold WY; rw [if_neg (by simpa using hb)]
  refine Zd ?_
  simp only [go_sem, seval]
  apply hK8
  clear hK8 K8
  refine Za zs [4] fun K Y => ?_
  simp only [go_sem, seval]
  apply Y; clear Y K
  refine Zf ?_
  simp only [go_sem, seval]
  refine ⟨_, rfl, fun k hk => ?_, Frz.eq (congrArg (AV.int .i64) hd) trivial⟩
  (repeat rw [if_neg (by omega)])
 have g7 : Yd c.kind = false := hb
 refine Za zs [3, 51] fun K Y => ?_
 simp only [go_sem, seval, hszq, haq]
 refine Zg func62 rfl rfl rfl ((c_ref14_zero c.q _ _)) ?_
 simp only [go_sem, seval]
 apply Y; clear Y K
 refine Ze ?_ ?_ <;> intro hb
 ·have g8 : c.q ≠ zq := by simpa using hb
  have hd : 130 = ZB qc s c := by unfold ZB; simp [g0, g1, g2, g3, g5, g6, g7, g8]
  refine Za zs [4] fun K Y => ?_
  simp only [go_sem, seval]
  apply Y; clear Y K
  refine Zf ?_
  simp only [go_sem, seval]
  refine ⟨_, rfl, fun k hk => ?_, Frz.eq (congrArg (AV.int .i64) hd) trivial⟩
  (repeat rw [if_neg (by omega)])
 have g8 : c.q = zq := by simpa using hb
 have ht : ZB qc s c = WY c := by unfold ZB; simp [g0, g1, g2, g3, g5, g6, g7, g8]
 refine Zd ?_
 simp only [go_sem, seval]
 apply hK7
 clear hK7 K7
 refine Zb fun K9 hK9 => ?_
 refine Za zs [55] fun K Y => ?_
 simp only [go_sem, seval, hszq]
 refine Zg func63 rfl rfl rfl ((Qa c hc hk.1 hk.2 _ _)) ?_
 simp only [go_sem, seval, List.length_map]
 apply Y; clear Y K
 refine Ze ?_ ?_ <;> intro hb
 ·have hd : 2 = ZB qc s c := by rw [ht]; unfold WY; rw [if_pos (by simpa using hb)]
  refine Za zs [4] fun K Y => ?_
  simp only [go_sem, seval]
  apply Y; clear Y K
  refine Zf ?_
  simp only [go_sem, seval]
  refine ⟨_, rfl, fun k hk => ?_, Frz.eq (congrArg (AV.int .i64) hd) trivial⟩
  (repeat rw [if_neg (by omega)])
 have hd : 0 = ZB qc s c := by rw [ht]; unfold WY; rw [if_neg (by simpa using hb)]
 refine Zd ?_
 simp only [go_sem, seval]
 apply hK9
 clear hK9 K9
 refine Za zs [4] fun K Y => ?_
 simp only [go_sem, seval]
 apply Y; clear Y K
 refine Zf ?_
 simp only [go_sem, seval]
 refine ⟨_, rfl, fun k hk => ?_, Frz.eq (congrArg (AV.int .i64) hd) trivial⟩
 (repeat rw [if_neg (by omega)])
set_option maxRecDepth 100000 in
theorem Ml (s : List Fml) (hs : s.length ≤ 2000000) (c : CmdE) (hc : c.fits) (qc : Int) (hq : Yd c.kind = true → ∀ H n, Ret prog 61 [Zt s, Zq c.q] H n (.int .i64 qc) H n) (H : Heap) (n : Nat) :
   Ret prog 18 [Zt s, Zh c] H n (.tup [bys (if ZB qc s c = 0 then cmdB c else []), .int .i64 (ZB qc s c)]) H n := by
 have hszs : (Zt s).sz = 1 := rfl
 have hags : (Zt s).isAgg = true := rfl
 have hmos : (Zt s).memOK = true := rfl
 have hcag : (Zh c).isAgg = true := rfl
 have hcmo : (Zh c).memOK = true := rfl
 have hsz : (Zh c).sz = 17 := Yy c
 refine Ret.fin ?_
 refine Zc func18 rfl ntmps18 (congrArg Array.toList results18) (by simp) ?_
 simp only [go_sem]
 refine Za zs [2, 3] fun K Y => ?_
 simp only [go_sem, seval, hcmo, hsz]
 apply Y; clear Y K
 refine Za zs [3, 6] fun K Y => ?_
 simp only [go_sem, seval, hcag, hsz]
 refine Zg func16 rfl rfl rfl ((c_ref14_Check s hs c hc qc hq _ _)) ?_
 simp only [go_sem, seval]
 apply Y; clear Y K
 refine Zb fun K1 hK1 => ?_
 refine Za zs [3, 6, 11] fun K Y => ?_
 simp only [go_sem, seval]
 apply Y; clear Y K
 refine Ze ?_ ?_ <;> intro hb
 ·have hn : ¬ ZB qc s c = 0 := by simpa using hb
  refine Za zs [4, 5] fun K Y => ?_
  simp only [go_sem, seval]
  apply Y; clear Y K
  refine Zf ?_
  simp only [go_sem, seval]
  refine ⟨_, rfl, fun k hk => by (repeat rw [if_neg (by omega)]), ?_⟩
  (rw [if_neg hn]; exact .tup (.cons .nilsl (.cons (.kl trivial) .nil)))
 have hy : ZB qc s c = 0 := by simpa using hb
 refine Zd ?_
 simp only [go_sem, seval]
 apply hK1
 clear hK1 K1
 refine Za zs [4, 5] fun K Y => ?_
 simp only [go_sem, seval, hcag, hsz]
 refine Zg func63 rfl rfl rfl ((Qa c hc (VU hy).1 (VU hy).2 _ _)) ?_
 simp only [go_sem, seval]
 apply Y; clear Y K
 refine Zf ?_
 simp only [go_sem, seval]
 refine ⟨_, rfl, fun k hk => by (repeat rw [if_neg (by omega)]), ?_⟩
 (rw [hy, if_pos rfl]; exact .tup (.cons (.kl (ZJ _ _)) (.cons (.kl trivial) .nil)))
end Go.Proofs.YtifnhpmeoogedaaGreatDoor
namespace Go.Sx
open Go
open Classical in
noncomputable def Ctx.frzK (c : Ctx) (H : Heap) (k : Nat) (w : World) : Ctx where
 ρ := c.ρ
 ro := fun b => match c.ro b with
   | some a => some a
   | none => if ∃ ver e els, H k = some (.arr ver e els) ∧ Zw c k (.arr ver e els) = some b then
       (match w.heap[b]? with | some (.cells a _ _) => some a | _ => none) else none
theorem Ctx.frzK_le (c : Ctx) (H : Heap) (k : Nat) (w : World) : c.le (c.frzK H k w) where
 ρ := fun h => h
 ro := fun {b a} h => by simp only [Ctx.frzK, h]
theorem Ctx.frzK_ro {c : Ctx} {H : Heap} {n : Nat} {w : World} (hs : Sim c H n w) {k ver e : Nat} {els : List AV} (hk : H k = some (.arr ver e els)) {b : Nat} (hbo : Zw c k (.arr ver e els) = some b) {arr : Array Value} {ty : TypeId} {fr : Nat × Nat} (hb : w.heap[b]? = some (.cells arr ty fr)) : (c.frzK H k w).ro b = some arr := by
 have h := hs.sep k _ b hk hbo
 simp only [Ctx.frzK, h]
 rw [if_pos ⟨ver, e, els, hk, hbo⟩, hb]
theorem Step.frzK {c : Ctx} {H : Heap} {n : Nat} {w : World} (hs : Sim c H n w) (k : Nat) : Step c H w (c.frzK H k w) (H.put k none) n w := by
 have hne : ∀ {k' o}, (H.put k none) k' = some o → k' ≠ k ∧ H k' = some o := fun {k' o} h => by
   by_cases e : k' = k
   ·subst e; rw [MG] at h; cases h
   ·rw [ME _ _ e] at h; exact ⟨e, h⟩
 have hbo : ∀ k' o, Zw (c.frzK H k w) k' o = Zw c k' o := fun _ _ => rfl
 exact {
   le := c.frzK_le H k w
   sim := {
     ro := fun b a hb => by
       simp only [Ctx.frzK] at hb
       split at hb
       ·rename_i a' hr; cases hb; exact hs.ro b _ hr
       ·split at hb
        ·split at hb
         ·rename_i _ _ hw; cases hb; exact ⟨_, _, hw⟩
         ·simp at hb
        ·simp at hb
     own := fun k' o h => (hs.own k' o (hne h).2).mono (c.frzK_le H k w) (fun _ _ => rfl)
     sep := fun k' o b h hb => by
       rw [hbo] at hb
       have h4 := hs.sep k' o b (hne h).2 hb
       simp only [Ctx.frzK, h4]
       rw [if_neg]
       rintro ⟨ver, e, els, hk', hb'⟩
       exact (hne h).1 (hs.inj k' k o _ b (hne h).2 hk' hb hb')
     inj := fun k1 k2 o1 o2 b h1 h2 b1 b2 => hs.inj k1 k2 o1 o2 b (hne h1).2 (hne h2).2 b1 b2
     fresh := fun k' hk => ⟨by
       by_cases e : k' = k
       ·subst e; exact MG _ _ _
       ·rw [ME _ _ e]; exact (hs.fresh k' hk).1, (hs.fresh k' hk).2⟩
     vers := fun k' o v h hv => hs.vers k' o v (hne h).2 hv }
   fr := .refl _ _
   new := fun b ⟨k', o, h, hb⟩ => .inl ⟨k', o, (hne h).2, hb⟩ }
def Frzn (k ver e : Nat) (els : List AV) (c : Ctx) : Prop := ∃ c0 H n w, Sim c0 H n w ∧ H k = some (.arr ver e els) ∧ c = c0.frzK H k w
theorem Frzn.osl {k ver e off len : Nat} {els : List AV} {c : Ctx} (hf : Frzn k ver e els c) (hlen : off + len ≤ els.length) {m : Bool} {cs : List Value} (hr : Rel c (.osl k ver off len) m cs) : Rel c (.sl e ((els.drop off).take len)) m cs := by
 obtain ⟨c0, H, n, w, hs, hk, rfl⟩ := hf
 have hys : ((els.drop off).take len).length = len := by simp; omega
 have ho := hs.own k _ hk
 simp only [Ya] at ho
 obtain ⟨l, hl, hm⟩ := ho
 simp only [Rel] at hr ⊢
 obtain ⟨l', hl', hmm⟩ := hr
 rw [show (c0.frzK H k w).ρ k ver = c0.ρ k ver from rfl, hl] at hl'; cases hl'
 cases l with
 | nil =>
   obtain ⟨_, h2, ev⟩ := hmm
   subst h2
   exact ⟨none, 0, by simpa using ev, by simp, by simp, .inl (by simp)⟩
 | blk b cap e' =>
   obtain ⟨he, hz, hc, arr, ty, ds, hb, hsz, hrf, ha⟩ := hm
   subst he
   obtain ⟨cp, o', h1, h2, h3, ev⟩ := hmm
   have hbo : Zw c0 k (.arr ver e' els) = some b := by simp [Zw, AObj.ver, hl]
   refine ⟨_, cp, by rw [hys]; exact ev, by rw [hys]; exact h1, fun x hx => hz x (List.mem_of_mem_drop (List.mem_of_mem_take hx)), ?_⟩
   by_cases h0 : len = 0
   ·left; exact List.length_eq_zero_iff.1 (by omega)
   ·right
    have eo : o' = off * e' := by rcases h3 with h3 | h3 <;> omega
    subst eo
    have e1 : els = els.take off ++ ((els.drop off).take len ++ (els.drop off).drop len) := by rw [List.take_append_drop, List.take_append_drop]
    rw [e1] at hrf
    obtain ⟨d1, r1, ed, hr1, hr2⟩ := RelF.append.1 hrf
    obtain ⟨d2, d3, ed2, hr3, hr4⟩ := RelF.append.1 hr2
    subst ed; subst ed2
    have hl1 : d1.length = off * e' := by
      rw [(RelF.len _ _ hr1).1, MI (fun x hx => hz x (List.mem_of_mem_take hx)), List.length_take, Nat.min_eq_left (by omega)]
    obtain ⟨_, ha2⟩ := At.append.1 ha
    obtain ⟨ha3, _⟩ := At.append.1 ha2
    exact ⟨b, off * e', arr, d2, rfl, Ctx.frzK_ro hs hk hbo hb, RelF.mono (c0.frzK_le H k w) _ _ hr3, by rw [← hl1]; simpa using ha3⟩
def FzV (k ver e : Nat) (els : List AV) (a b : AV) : Prop := a.sz = b.sz ∧ ∀ c m cs, Frzn k ver e els c → Rel c a m cs → Rel c b m cs
def FzL (k ver e : Nat) (els : List AV) : List AV → List AV → Prop
 | [], [] => True
 | a :: l, b :: m => FzV k ver e els a b ∧ FzL k ver e els l m
 | _, _ => False
section
variable {k ver e : Nat} {els : List AV}
theorem FzV.refl (a : AV) : FzV k ver e els a a := ⟨rfl, fun _ _ _ _ h => h⟩
theorem FzV.osl {off len : Nat} (hlen : off + len ≤ els.length) : FzV k ver e els (.osl k ver off len) (.sl e ((els.drop off).take len)) := ⟨rfl, fun _ _ _ hf hr => hf.osl hlen hr⟩
theorem FzV.wk {a b : AV} (h : Wk a b) : FzV k ver e els a b := ⟨h.1, fun _ _ _ _ hr => h.2 _ _ _ hr⟩
theorem FzL.relF {c : Ctx} (hf : Frzn k ver e els c) : ∀ {l m : List AV} {cs : List Value}, FzL k ver e els l m → RelF c l cs → RelF c m cs
 | [], [], _, _, h => h
 | a :: l, b :: m, cs, hw, h => by
   simp only [RelF] at h ⊢
   obtain ⟨c1, c2, e, h1, h2⟩ := h
   exact ⟨c1, c2, e, hw.1.2 _ _ _ hf h1, FzL.relF hf hw.2 h2⟩
 | [], _ :: _, _, hw, _ => hw.elim
 | _ :: _, [], _, hw, _ => hw.elim
theorem FzL.szs : ∀ {l m : List AV}, FzL k ver e els l m → AV.szs l = AV.szs m
 | [], [], _ => rfl
 | a :: l, b :: m, hw => by simp only [AV.szs]; rw [hw.1.1, FzL.szs hw.2]
 | [], _ :: _, hw => hw.elim
 | _ :: _, [], hw => hw.elim
theorem FzL.len : ∀ {l m : List AV}, FzL k ver e els l m → l.length = m.length
 | [], [], _ => rfl
 | a :: l, b :: m, hw => by simp [FzL.len hw.2]
 | [], _ :: _, hw => hw.elim
 | _ :: _, [], hw => hw.elim
theorem FzL.szAll {e' : Nat} : ∀ {l m : List AV}, FzL k ver e els l m → (∀ x ∈ l, x.sz = e') → ∀ x ∈ m, x.sz = e'
 | [], [], _, _, x, hx => by simp at hx
 | a :: l, b :: m, hw, h, x, hx => by
   rcases List.mem_cons.1 hx with rfl | hx
   ·rw [← hw.1.1]; exact h a (by simp)
   ·exact FzL.szAll hw.2 (fun y hy => h y (by simp [hy])) x hx
 | [], _ :: _, hw, _, _, _ => hw.elim
 | _ :: _, [], hw, _, _, _ => hw.elim
theorem FzV.agg {l m : List AV} (h : FzL k ver e els l m) : FzV k ver e els (.agg l) (.agg m) := ⟨by simp only [AV.sz]; exact h.szs, fun c mm cs hf hr => by
 cases mm with
 | true => simp only [Rel] at hr ⊢; exact h.relF hf hr
 | false => simp only [Rel] at hr ⊢; obtain ⟨arr, e, hr⟩ := hr; exact ⟨arr, e, h.relF hf hr⟩⟩
end
theorem VN {P : Program} {N : Nat} {code : Code} {T : Nat → AV} {H : Heap} {n : Nat} {Q : AEx → (Nat → AV) → Heap → Nat → Prop} (k j : Nat) {ver e vj ej : Nat} {els lj lj' : List AV} (hk : H k = some (.arr ver e els)) (hj : H j = some (.arr vj ej lj)) (hne : j ≠ k) (ha : FzL k ver e els lj lj')
   (h : awp P N code T ((H.put k none).put j (some (.arr vj ej lj'))) n Q) : awp P N code T H n Q :=
 Um (fun c w tmps hs hr => by
   have hst := Step.frzK hs k
   have hst2 := MS (els' := lj') hst.sim (k := j) (by rw [ME _ _ hne]; exact hj) (fun ds hd => ha.relF ⟨c, H, n, w, hs, hk, rfl⟩ hd) ha.len.symm ha.szAll
   exact ⟨_, hst.trans hst2, Z4.mono (hst.trans hst2).le hr⟩) h
theorem FzL.relT {k ver e : Nat} {els : List AV} {c : Ctx} (hf : Frzn k ver e els c) : ∀ {l m : List AV} {cs : List Value}, FzL k ver e els l m → RelT c l cs → RelT c m cs
 | [], [], _, _, h => h
 | a :: l, b :: m, cs, hw, h => by
   simp only [RelT] at h ⊢
   obtain ⟨c1, c2, e, h1, h2⟩ := h
   exact ⟨c1, c2, e, hw.1.2 _ _ _ hf h1, FzL.relT hf hw.2 h2⟩
 | [], _ :: _, _, hw, _ => hw.elim
 | _ :: _, [], _, hw, _ => hw.elim
theorem Zx.frzK {P : Program} {f : FuncId} {args args' : List AV} {H : Heap} {n : Nat} {K : ARes → Heap → Nat → Prop} (k : Nat) {ver e : Nat} {els : List AV} (hk : H k = some (.arr ver e els)) (ha : FzL k ver e els args args')
   (h : Zx P f args' (H.put k none) n K) : Zx P f args H n K := fun c w vs hs hr =>
 (h (c.frzK H k w) w vs (Step.frzK hs k).sim (ha.relT ⟨c, H, n, w, hs, hk, rfl⟩ (RelT.mono (c.frzK_le H k w) _ _ hr))).mono fun _ _ ⟨res, c', H', n', Y, hst, hm⟩ => ⟨res, c', H', n', Y, (Step.frzK hs k).trans hst, hm⟩
theorem Ret.frzK {P : Program} {f : FuncId} {args args' : List AV} {H : Heap} {n : Nat} {r : AV} {H' : Heap} {n' : Nat} (k : Nat) {ver e : Nat} {els : List AV} (hk : H k = some (.arr ver e els)) (ha : FzL k ver e els args args') (h : Ret P f args' (H.put k none) n r H' n') : Ret P f args H n r H' n' := Zx.frzK k hk ha h
theorem Zx.below {P : Program} {f : FuncId} {args : List AV} {H : Heap} {n : Nat} {K : ARes → Heap → Nat → Prop} {k : Nat} {o : AObj} (hk : H k = some o) (h : k < n → Zx P f args H n K) : Zx P f args H n K := fun c w vs hs hr =>
 h (by
   rcases Nat.lt_or_ge k n with h1 | h1
   ·exact h1
   ·rw [(hs.fresh k h1).1] at hk; cases hk) c w vs hs hr
theorem Ret.below {P : Program} {f : FuncId} {args : List AV} {H : Heap} {n : Nat} {r : AV} {H' : Heap} {n' : Nat} {k : Nat} {o : AObj} (hk : H k = some o) (h : k < n → Ret P f args H n r H' n') : Ret P f args H n r H' n' := Zx.below hk h
end Go.Sx
namespace Go.Proofs.YtifnhpmeoogedaaGreatDoor
open Go Go.Sx Go.Rt Go.Proofs Tryz
def c9 : CmdE := { zc with kind := 4, row := [114], conds := List.replicate 9 ⟨0, 0, [], []⟩ }
def zcd : AV := .agg [.int .i64 0, .int .i64 0, .nilsl, .nilsl]
def qz : AV := .agg [.nilsl, .nilsl, .nilsl, .nilsl, .int .i64 0, .int .i64 0, .int .i64 0, .bool false, .str [], .nilsl]
theorem fz_bytes (k m : Nat) : FzV k 0 1 (List.replicate m (AV.int .u8 0)) (.osl k 0 0 m) (bys (List.replicate m 0)) := by
 have h := FzV.osl (k := k) (ver := 0) (e := 1) (els := List.replicate m (AV.int .u8 0)) (off := 0) (len := m) (by simp)
 rw [List.drop_zero, List.take_of_length_le (by simp)] at h
 have e : (List.replicate m (0 : UInt8)).map Zn = List.replicate m (AV.int .u8 0) := by rw [List.map_replicate]; rfl
 unfold bys; rw [e]; exact h
theorem rdCmd_zero (m : Nat) : Wv (List.replicate m 0) = none := by
 unfold Wv rs1 Xy
 cases m with
 | zero => rfl
 | succ m => simp [List.replicate_succ, bout]
theorem decC_none (qc : QryE → Int) (b : List UInt8) : decC qc [] b = (zc, 28) := by unfold decC; rw [if_pos (by decide)]
theorem Ur : Wk zcd (Zu ⟨0, 0, [], []⟩) := Wk.agg ⟨.refl _, .refl _, .nilsl _, .nilsl _, trivial⟩
theorem wk_c9 : Wk (.agg [.int .i64 4, .int .i64 0, .int .i64 0, .sl 1 [.int .u8 114], .sl 4 (List.replicate 9 zcd), .nilsl, .int .i64 0, qz]) (Zh c9) :=
 Wk.agg ⟨.refl _, .refl _, .refl _, .refl _, .sl ⟨Ur, Ur, Ur, Ur, Ur, Ur, Ur, Ur, Ur, trivial⟩, .nilsl _, .refl _, Wk.agg ⟨.nilsl _, .nilsl _, .nilsl _, .nilsl _, .refl _, .refl _, .refl _, .refl _, .refl _, .nilsl _, trivial⟩, trivial⟩
set_option maxRecDepth 100000 in
theorem Mo {H : Heap} {n : Nat} (hG : GOK 0 2 H n) : Ret prog 46 [] H n (.bool true) H n := by
 refine Ret.fin ?_
 refine Zc func46 rfl ntmps46 (congrArg Array.toList results46) (by simp) ?_
 simp only [go_sem]
 refine ZE zs [] ?_
 refine ZE zo [1] ?_
 refine VN (n + 1) (n + 2) (ver := 0) (e := 4) (els := List.replicate 9 zcd) (vj := 0) (ej := 17) (lj := [.agg [.int .i64 4, .int .i64 0, .int .i64 0, .sl 1 [.int .u8 114], .osl (n + 1) 0 0 9, .nilsl, .int .i64 0, qz]]) (lj' := [.agg [.int .i64 4, .int .i64 0, .int .i64 0, .sl 1 [.int .u8 114], .sl 4 (List.replicate 9 zcd), .nilsl, .int .i64 0, qz]]) (by simp [Heap.put]; rfl) (by simp [Heap.put]; rfl) (by omega) ⟨FzV.agg ⟨.refl _, .refl _, .refl _, .refl _, FzV.osl (off := 0) (len := 9) (by simp), .refl _, .refl _, .refl _, trivial⟩, trivial⟩ ?_
 refine WN (n + 2) (ver := 0) (e := 17) (els := [.agg [.int .i64 4, .int .i64 0, .int .i64 0, .sl 1 [.int .u8 114], .sl 4 (List.replicate 9 zcd), .nilsl, .int .i64 0, qz]]) (els' := [Zh c9]) (MG _ _ _) ⟨wk_c9, trivial⟩ ?_
 refine Yh (fun H' n' => H' (n + 2) = some (.arr 0 17 [Zh c9]) ∧ (∀ k, k < n → H' k = H k) ∧ n + 3 ≤ n') ⟨MG _ _ _, fun k hk => by simp only [MF]; (repeat rw [if_neg (by omega)]), by omega⟩ fun H1 n1 ⟨k1, hl, hn⟩ => ?_
 refine Za zs [1, 3] fun K Y => ?_
 simp only [go_sem, seval, -List.reduceReplicate]
 generalize hm : (98305 : Nat) = m
 have hct := fun (Hc : Heap) (hc : GOK 0 2 Hc (n1 + 1)) => WA [] (by simp) (List.replicate m 0) (by rw [List.length_replicate]; omega) (fun _ => 0) hc (fun c h => by rw [rdCmd_zero] at h; cases h)
 rw [decC_none] at hct
 refine Zg (args' := [.agg [.nilsl], .osl n1 0 0 m]) func26 rfl rfl rfl (Ret.frzK n1 (MG _ _ _) (args' := [Zt [], bys (List.replicate m 0)]) ⟨FzV.agg ⟨FzV.wk (Wk.nilsl 3), trivial⟩, fz_bytes n1 m, trivial⟩ (hct _ (hG.on (fun k hk => by rw [ME _ _ (by omega), ME _ _ (by omega), hl k hk]) (by omega)))) ?_
 simp only [go_sem, seval, -List.reduceReplicate, Yy]
 repeat refine peel ?_
 apply Y; clear Y K
 have hGK : ∀ k, k < n → ((H1.put n1 none).put (n1 + 1) (some (.arr 0 17 [Zh zc]))) k = H k := fun k hk => by rw [ME _ _ (by omega), ME _ _ (by omega), hl k hk]
 have hGa := (hGK 0 hG.gek).trans hG.kinds
 have hGb := (hGK 2 hG.get).trans hG.table
 have e1 : (n + 2 = n1 + 1) = False := by simp; omega
 have e2 : (n + 2 = n1) = False := by simp; omega
 have hq1 : ZB 0 [] { zc with kind := 99 } = 28 := by decide
 have hq2 : ZB 0 [⟨[102], 1, 0⟩] c9 = 146 := by decide
 have hcag : (Zh c9).isAgg = true := rfl
 have hcmo : (Zh c9).memOK = true := rfl
 have hbb : (true == true) = true := rfl
 have hb28 : ((28 : Int) == 28) = true := rfl
 have hb146 : ((146 : Int) == 146) = true := rfl
 refine VY rfl zs [0] [.q, .q, .c, .q, .m, .m, .q, .q, .m, .c, .q, .c, .q, .q, .q] [0, 1, 2, 3, 4, 5, 6, 7, 8, 9, 10, 11, 12, 13, 14] [0, 1, 2, 3, 4, 5, 6, 7, 8, 9, 10, 11, 12, 13, 14] (by kernel_rfl) (fun _ _ _ _ _ h => h) fun K Y => ?_
 simp only [go_sem, seval, k1, e1, e2, Yy, hcag]
 repeat refine peel ?_
 refine ZR func15 rfl rfl rfl (fun _ n9 => Ret.wk (Ret.below hGa fun g1 => Ret.below hGb fun g2 => Xx [] (by simp) { zc with kind := 99 } (let z := KS; ⟨z.1, z.2, z.3, z.4, z.5, z.6, z.7, z.8, z.9, z.10, z.11⟩) 0 (fun h => by cases h) _ n9 ⟨hGa, hGb, g1, g2⟩) ⟨Wk.agg ⟨.nilsl _, trivial⟩, Wk.agg ⟨.refl _, .refl _, .refl _, .nilsl _, .nilsl _, .nilsl _, .refl _, Wk.agg ⟨.nilsl _, .nilsl _, .nilsl _, .nilsl _, .refl _, .refl _, .refl _, .refl _, .refl _, .nilsl _, trivial⟩, trivial⟩, trivial⟩) ?_
 simp only [go_sem, seval, hq1, hbb, hb28]
 refine ZR func41 rfl rfl rfl (fun _ n => (Wq _ _)) ?_
 simp only [go_sem, seval]
 refine ZR func15 rfl rfl rfl (fun _ n9 => Ret.below hGa fun g1 => Ret.below hGb fun g2 => Xx [⟨[102], 1, 0⟩] (by simp) c9 (let z := KS; ⟨by decide, by decide, by decide, z.4, z.5, z.6, z.7, z.8, z.9, z.10, z.11⟩) 0 (fun h => by cases h) _ n9 ⟨hGa, hGb, g1, g2⟩) ?_
 simp only [go_sem, seval, hq2, hb146]
 apply Y; clear Y K
 refine Zf ?_
 simp only [go_sem, seval]
 exact ⟨_, rfl, fun k hk => by rw [if_neg (by omega), if_neg (by omega), hl k hk], .kl trivial⟩
def c8 : CmdE := { zc with kind := 4, row := [114], ops := [⟨5, 0, [113], 0, [], -1⟩] }
def r8 : RepE := { zr with value := 7 }
def s1 : List Fml := [⟨[102], 1, 0⟩]
theorem Qx : c8.fits := let z := KS; ⟨by decide, z.2, z.3, by decide, by decide, z.6, z.7, z.8, z.9, z.10, z.11⟩
theorem c8_B : cmdB c8 = [4, 0, 0, 1, 114, 0, 1, 5, 0, 1, 113, 0, 0, 255, 255, 255, 255, 255, 255, 255, 255] := by
 simp [cmdB, c8, zc, Zp, WX, u64, opB, XO, ZW, YB, ZQ, YQ]
theorem chk8 (qc : Int) : ZB qc s1 c8 = 0 := by
 have h : WY c8 = 0 := by unfold WY; rw [c8_B]; rfl
 unfold ZB
 rw [h]
 have : Yd c8.kind = false := rfl
 rw [this]
 simp only [Bool.false_eq_true, ↓reduceIte]
 decide
theorem dec8 (qc : QryE → Int) : decC qc s1 (cmdB c8) = (c8, 0) := by
 have h1 : Wv (cmdB c8) = some c8 := by rw [c8_B]; decide +kernel
 unfold decC
 rw [if_neg (by decide), if_neg (by rw [c8_B]; decide), h1]
 simp only []
 rw [if_pos ⟨chk8 _, trivial⟩]
theorem dec0 (qc : QryE → Int) : decC qc s1 [] = (zc, 140) := by
 unfold decC
 rw [if_neg (by decide), if_neg (by decide)]
 have h1 : Wv [] = none := by decide +kernel
 rw [h1]
theorem r8_B : repB r8 = [0, 0, 7, 0, 0, 0] := by
 simp [repB, r8, zr, Zp, WX, u64, Wx]
theorem enc8 : encR r8 = (repB r8, 0) := by
 unfold encR
 rw [if_neg (by decide), if_neg (by rw [r8_B]; decide)]
theorem decr8 : decR (repB r8) = (r8, 0) := by
 have h1 : UI (repB r8) = some r8 := by rw [r8_B]; decide +kernel
 unfold decR
 rw [if_neg (by rw [r8_B]; decide), h1]
 simp only []
 rw [if_pos ⟨by decide, trivial⟩]
theorem rd8 : Wv (cmdB c8) = some c8 := by rw [c8_B]; decide +kernel
theorem rd0 : Wv [] = none := by decide +kernel
theorem wk_r8 : Wk (.agg [.int .i64 0, .bool false, .int .i64 7, .agg [.nilsl, .nilsl, .bool false]]) (Zy r8) := Wk.agg ⟨.refl _, .refl _, .refl _, Wk.agg ⟨.nilsl _, .nilsl _, .refl _, trivial⟩, trivial⟩
theorem wk_c8 : Wk (.agg [.int .i64 4, .int .i64 0, .int .i64 0, .sl 1 [.int .u8 114], .nilsl, .sl 6 [.agg [.int .i64 5, .int .i64 0, .sl 1 [.int .u8 113], .int .i64 0, .nilsl, .int .i64 (-1)]], .int .i64 0, qz]) (Zh c8) :=
 Wk.agg ⟨.refl _, .refl _, .refl _, .refl _, .nilsl _, .sl ⟨Wk.agg ⟨.refl _, .refl _, .refl _, .refl _, .nilsl _, .refl _, trivial⟩, trivial⟩, .refl _, Wk.agg ⟨.nilsl _, .nilsl _, .nilsl _, .nilsl _, .refl _, .refl _, .refl _, .refl _, .refl _, .nilsl _, trivial⟩, trivial⟩
set_option maxRecDepth 100000 in
set_option maxHeartbeats 3200000 in
theorem c_law14_told {H : Heap} {n : Nat} (hG : GOK 0 2 H n) : Ret prog 12 [] H n (.bool true) H n := by
 have k1 : (0 : Nat) = 0 := rfl
 have hcag : (Zh c8).isAgg = true := rfl
 have hcmo : (Zh c8).memOK = true := rfl
 refine Ret.fin ?_
 refine Zc func12 rfl ntmps12 (congrArg Array.toList results12) (by simp) ?_
 simp only [go_sem]
 refine Za zs [] fun K Y => ?_
 simp only [go_sem, seval]
 apply Y; clear Y K
 refine Za zo [1] fun K Y => ?_
 simp only [go_sem, seval]
 repeat refine peel ?_
 apply Y; clear Y K
 refine VN (n + 2) (n + 3) (ver := 0) (e := 6) (els := [.agg [.int .i64 5, .int .i64 0, .sl 1 [.int .u8 113], .int .i64 0, .nilsl, .int .i64 (-1)]]) (vj := 0) (ej := 17) (lj := [.agg [.int .i64 4, .int .i64 0, .int .i64 0, .sl 1 [.int .u8 114], .nilsl, .osl (n + 2) 0 0 1, .int .i64 0, qz]]) (lj' := [.agg [.int .i64 4, .int .i64 0, .int .i64 0, .sl 1 [.int .u8 114], .nilsl, .sl 6 [.agg [.int .i64 5, .int .i64 0, .sl 1 [.int .u8 113], .int .i64 0, .nilsl, .int .i64 (-1)]], .int .i64 0, qz]]) (by simp [Heap.put]) (by simp [Heap.put]; rfl) (by omega) ⟨FzV.agg ⟨.refl _, .refl _, .refl _, .refl _, .refl _, FzV.osl (off := 0) (len := 1) (by simp), .refl _, .refl _, trivial⟩, trivial⟩ ?_
 refine WN (n + 3) (ver := 0) (e := 17) (els := [.agg [.int .i64 4, .int .i64 0, .int .i64 0, .sl 1 [.int .u8 114], .nilsl, .sl 6 [.agg [.int .i64 5, .int .i64 0, .sl 1 [.int .u8 113], .int .i64 0, .nilsl, .int .i64 (-1)]], .int .i64 0, qz]]) (els' := [Zh c8]) (MG _ _ _) ⟨wk_c8, trivial⟩ ?_
 refine Yh (fun H' n' => H' (n + 3) = some (.arr 0 17 [Zh c8]) ∧ (∀ k, k < n → H' k = H k) ∧ n + 4 ≤ n') ⟨MG _ _ _, fun k hk => by simp only [MF]; (repeat rw [if_neg (by omega)]), by omega⟩ fun H1 n1 ⟨k1, hl, hn⟩ => ?_
 have hGa := (hl 0 hG.gek).trans hG.kinds
 have hGb := (hl 2 hG.get).trans hG.table
 have hE := fun n9 => Ret.below hGa fun g1 => Ret.below hGb fun g2 => Qf s1 (by decide) c8 Qx 0 (H := H1) (n := n9) ⟨hGa, hGb, g1, g2⟩ (fun h => by cases h)
 have hE2 := fun n9 => Ml s1 (by decide) c8 Qx 0 (fun h => by cases h) H1 n9
 simp only [chk8, ↓reduceIte] at hE hE2
 refine VY rfl zs [1, 2, 3] [.c, .q, .c, .m, .q, .q, .q, .q] [0, 1, 2, 3, 4, 5, 6, 7] [0, 1, 2, 3, 4, 5, 6, 7] (by kernel_rfl) (fun _ _ _ _ _ h => h) fun K Y => ?_
 simp only [go_sem, seval, k1, Yy, hcag]
 refine ZR func41 rfl rfl rfl (fun _ n => (Wq _ _)) ?_
 simp only [go_sem, seval]
 refine ZR func17 rfl rfl rfl (fun _ n9 => hE n9) ?_
 simp only [go_sem, seval]
 apply Y; clear Y K
 refine VY rfl zs [1, 2, 3, 4] [.c, .q, .c, .m, .q, .q, .q, .q] [0, 1, 2, 3, 4, 5, 6, 7] [0, 1, 2, 3, 4, 5, 6, 7] (by kernel_rfl) (fun _ _ _ _ _ h => h) fun K Y => ?_
 simp only [go_sem, seval, k1, Yy, hcag]
 refine ZR func41 rfl rfl rfl (fun _ n => (Wq _ _)) ?_
 simp only [go_sem, seval]
 refine ZR func18 rfl rfl rfl (fun _ n9 => hE2 n9) ?_
 simp only [go_sem, seval]
 apply Y; clear Y K
 refine Za zs [1, 2, 3, 4, 6, 7] fun K Y => ?_
 simp only [go_sem, seval]
 refine Zg func41 rfl rfl rfl ((Wq _ _)) ?_
 simp only [go_sem, seval]
 have hD := fun (Hc : Heap) (nc : Nat) (hc : GOK 0 2 Hc nc) => WA s1 (by decide) (cmdB c8) (by rw [c8_B]; decide) (fun _ => 0) hc (fun c h hk => by rw [rd8] at h; cases h; cases hk)
 simp only [dec8] at hD
 refine Zg func26 rfl rfl rfl (hD _ _ (hG.on (fun k hk => by (try simp only [MF]); (repeat rw [if_neg (by omega)]); exact hl k hk) (by omega))) ?_
 simp only [go_sem, seval, Yy, hcmo]
 apply Y; clear Y K
 refine Za zs [1, 2, 3, 4, 6, 7, 8] fun K Y => ?_
 simp only [go_sem, seval]
 repeat refine peel ?_
 apply Y; clear Y K
 refine WN (n1 + 1) (ver := 0) (e := 6) (els := [.agg [.int .i64 0, .bool false, .int .i64 7, .agg [.nilsl, .nilsl, .bool false]]]) (els' := [Zy r8]) (by simp [Heap.put]) ⟨wk_r8, trivial⟩ ?_
 refine Za zs [1, 2, 3, 4, 6, 7, 8, 9, 10] fun K Y => ?_
 simp only [go_sem, seval, Xv]
 repeat refine peel ?_
 have hR := fun (Hc : Heap) (nc : Nat) => Vk r8 (by decide) (by decide) (by decide) Hc nc
 simp only [enc8] at hR
 refine Zg func33 rfl rfl rfl (hR _ _) ?_
 simp only [go_sem, seval]
 apply Y; clear Y K
 refine Za zs [1, 2, 3, 4, 6, 7, 8, 10, 11, 12] fun K Y => ?_
 simp only [go_sem, seval]
 have hP := fun (Hc : Heap) (nc : Nat) => XZ (repB r8) (H := Hc) (n := nc)
 simp only [decr8] at hP
 refine Zg func37 rfl rfl rfl (hP _ _) ?_
 simp only [go_sem, seval, Xv]
 repeat refine peel ?_
 apply Y; clear Y K
 refine Za zs [1, 2, 3, 4, 6, 7, 8, 10, 11, 12, 14] fun K Y => ?_
 simp only [go_sem, seval]
 refine Zg func41 rfl rfl rfl ((Wq _ _)) ?_
 simp only [go_sem, seval]
 have hN := fun (Hc : Heap) (nc : Nat) (hc : GOK 0 2 Hc nc) => Ret.wk (args := [Zt s1, .nilsl]) (WA s1 (by decide) [] (by decide) (fun _ => 0) hc (fun c h hk => by rw [rd0] at h; cases h)) ⟨.refl _, .nilsl _, trivial⟩
 simp only [dec0] at hN
 refine Zg func26 rfl rfl rfl (hN _ _ (hG.on (fun k hk => by (try simp only [MF]); (repeat rw [if_neg (by omega)]); exact hl k hk) (by omega))) ?_
 simp only [go_sem, seval, Yy]
 repeat refine peel ?_
 apply Y; clear Y K
 refine Zb fun K1 hK1 => ?_
 refine Za zs [1, 2, 3, 4, 6, 7, 8, 10, 11, 12, 14, 58] fun K Y => ?_
 simp only [go_sem, seval]
 refine Zg func46 rfl rfl rfl ((Mo (hG.on (fun k hk => by (try simp only [MF]); (repeat rw [if_neg (by omega)]); exact hl k hk) (by omega)))) ?_
 simp only [go_sem, seval]
 apply Y; clear Y K
 refine Ze ?_ ?_ <;> intro hb
 ·exact absurd hb (by decide) --dead
 refine Zd ?_
 simp only [go_sem, seval]
 apply hK1
 clear hK1 K1
 have hbb : (true == true) = true := rfl
 have hb0 : ((0 : Int) == 0) = true := rfl
 have hb1 : ((140 : Int) == 140) = true := rfl
 have hs1 : decide (cmdB c8 = cmdB c8) = true := by simp
 have hs2 : decide (c8 = c8) = true := by simp
 have hs3 : decide (r8 = r8) = true := by simp
 have hs4 : decide (c8 = zc) = false := by decide
 have e0 : (n + 3 = n1) = False := by simp; omega
 have e1 : (n + 3 = n1 + 1) = False := by simp; omega
 have e2 : (n + 3 = n1 + 2) = False := by simp; omega
 have e3 : (n + 3 = n1 + 3) = False := by simp; omega
 have hca : ∀ c, (Zh c).isAgg = true := fun _ => rfl
 have hcm : ∀ c, (Zh c).memOK = true := fun _ => rfl
 have hra : ∀ c, (Zy c).isAgg = true := fun _ => rfl
 have hrm : ∀ c, (Zy c).memOK = true := fun _ => rfl
 have hdt : decide True = true := rfl
 have e5 : (n1 = n1 + 1 + 2) = False := by simp; omega
 have e6 : (n1 + 1 = n1 + 1 + 2) = False := by simp
 have e7 : (n1 + 2 = n1 + 1 + 2) = False := by simp
 have e8 : (n + 1 + 2 = n1 + 1 + 2) = False := by simp; omega
 refine Za zs [1, 6, 8, 11, 15] fun K Y => ?_
 simp only [go_sem, seval, hbb, hb0, hb1]
 refine Zv func19 rfl rfl rfl (fun _ => c_law14_same (cmdB c8) (cmdB c8) (by rw [c8_B]; decide) _ _) ?_
 simp only [go_sem, seval, k1, Yy, hcag, hdt, e5, e8, hbb, e0, e1, e2]
 refine Zv func28 rfl rfl rfl (fun _ => c_ref14_Same c8 c8 Qx _ _) ?_
 simp only [go_sem, seval, hdt]
 apply Y; clear Y K
 have hl2 := fun (k : Nat) (hk : k < n) => hl k hk
 have hC := fun (Hc : Heap) (n9 : Nat) (ha : Hc 0 = some (.glob 5 XX)) (hb : Hc 2 = some (.glob 1 Vx)) => Ret.below ha fun g1 => Ret.below hb fun g2 => Xx s1 (by decide) c8 Qx 0 (fun h => by cases h) Hc n9 ⟨ha, hb, g1, g2⟩
 simp only [chk8] at hC
 have hnf : ((!false) == true) = true := rfl
 refine VY rfl zs [0] [.m, .m, .q, .q, .c, .q, .m, .q, .q, .c, .q, .m, .q, .q, .c, .q, .q, .m, .c, .q, .c, .q, .q, .q] [0, 1, 2, 3, 4, 5, 6, 7, 8, 9, 10, 11, 12, 13, 14, 15, 16, 17, 18, 19, 20, 21, 22, 23] [0, 1, 2, 3, 4, 5, 6, 7, 8, 9, 10, 11, 12, 13, 14, 15, 16, 17, 18, 19, 20, 21, 22, 23] (by kernel_rfl) (fun _ _ _ _ _ h => h) fun K Y => ?_
 simp only [go_sem, seval, k1, Yy, Xv, hcag, e5, e6, e7, e8, hbb, e0, e1, e2, hra]
 refine ZR func38 rfl rfl rfl (fun _ n => (Jw r8 r8 (by decide) (by decide) _ _)) ?_
 simp only [go_sem, seval, hdt, hbb]
 refine ZR func31 rfl rfl rfl (fun _ n => (JD c8 c8 Qx _ _)) ?_
 simp only [go_sem, seval, hdt, hbb]
 refine ZR func31 rfl rfl rfl (fun _ n => (Ret.wk (args := [Zh c8, cmdZ]) (JD c8 zc Qx _ _) ⟨.refl _, cmdZ_wk, trivial⟩)) ?_
 simp only [go_sem, seval, Bool.not_false, hbb, hs4]
 refine ZR func41 rfl rfl rfl (fun _ n => (Wq _ _)) ?_
 simp only [go_sem, seval]
 refine ZR func15 rfl rfl rfl (fun _ n9 => hC _ n9 (by rw [ME _ _ (by have := hG.gek; omega), ME _ _ (by have := hG.gek; omega), ME _ _ (by have := hG.gek; omega), ME _ _ (by have := hG.gek; omega)]; exact (hl _ hG.gek).trans hG.kinds) (by rw [ME _ _ (by have := hG.get; omega), ME _ _ (by have := hG.get; omega), ME _ _ (by have := hG.get; omega), ME _ _ (by have := hG.get; omega)]; exact (hl _ hG.get).trans hG.table)) ?_
 simp only [go_sem, seval, hb0]
 apply Y; clear Y K
 refine Zf ?_
 simp only [go_sem, seval]
 refine ⟨_, rfl, fun k hk => ?_, .kl trivial⟩
 (repeat rw [if_neg (by omega)])
 exact hl k hk
end Go.Proofs.YtifnhpmeoogedaaGreatDoor
namespace Go.Rt
open Go Go.Sx
def QG (x : YF) : YF := { x with qual := x.qual.take 5000, value := x.value.take 5000 }
def opT (x : OpE) : OpE := { x with qual := x.qual.take 5000, value := x.value.take 5000 }
def qryT (q : QryE) : QryE := { q with frm := q.frm.take 5000, to := q.to.take 5000, pre := q.pre.take 5000, token := q.token.take 5000, whr := q.whr.take 5000, fams := q.fams.take 20 }
def cmdT (c : CmdE) : CmdE := { c with row := c.row.take 5000, conds := (c.conds.take 20).map QG, ops := (c.ops.take 20).map opT, q := qryT c.q }
theorem X3 (l : List UInt8) : (l.take 5000).length ≤ 1048576 := by rw [List.length_take]; omega
theorem cmdT_fits (c : CmdE) : (cmdT c).fits := by
 refine ⟨X3 _, ?_, ?_, ?_, ?_, X3 _, X3 _, ?_, X3 _, X3 _, X3 _⟩
 ·show ((c.conds.take 20).map QG).length ≤ _
  rw [List.length_map, List.length_take]; omega
 ·intro x hx
  obtain ⟨y, _, rfl⟩ := List.mem_map.1 hx
  exact ⟨X3 _, X3 _⟩
 ·show ((c.ops.take 20).map opT).length ≤ _
  rw [List.length_map, List.length_take]; omega
 ·intro x hx
  obtain ⟨y, _, rfl⟩ := List.mem_map.1 hx
  exact ⟨X3 _, X3 _⟩
 ·show (c.q.fams.take 20).length ≤ _
  rw [List.length_take]; omega
end Go.Rt
namespace Go.Sx
open Go
mutual
def AV.fr (n : Nat) : AV → Prop
 | .int _ _ => True
 | .bool _ => True
 | .str _ => True
 | .nilp => True
 | .nilsl => True
 | .nilf => True
 | .nilm => True
 | .nili => True
 | .loc k _ _ _ _ => n ≤ k
 | .osl k _ _ _ => n ≤ k
 | .agg fs => MO n fs
 | .tup fs => MO n fs
 | .iface _ v => v.fr n
 | _ => False
def MO (n : Nat) : List AV → Prop
 | [] => True
 | f :: fs => f.fr n ∧ MO n fs
end
mutual
theorem Rel.frC {c c' : Ctx} {n : Nat} (h : ∀ k v l, n ≤ k → c.ρ k v = some l → c'.ρ k v = some l) : ∀ (av : AV) (m : Bool) (cs : List Value), av.fr n → Rel c av m cs → Rel c' av m cs
 | .int _ _, _, _, _, hr => by simpa [Rel] using hr
 | .bool _, _, _, _, hr => by simpa [Rel] using hr
 | .str _, _, _, _, hr => by simpa [Rel] using hr
 | .nilp, _, _, _, hr => by simpa [Rel] using hr
 | .nilsl, _, _, _, hr => by simpa [Rel] using hr
 | .nilf, _, _, _, hr => by simpa [Rel] using hr
 | .nilm, _, _, _, hr => by simpa [Rel] using hr
 | .nili, _, _, _, hr => by simpa [Rel] using hr
 | .loc _ _ _ _ _, _, _, hk, hr => by
   simp only [Rel] at hr ⊢
   simp only [AV.fr] at hk
   obtain ⟨b, cap, esz, hl, e⟩ := hr
   exact ⟨b, cap, esz, h _ _ _ hk hl, e⟩
 | .osl _ _ _ _, _, _, hk, hr => by
   simp only [Rel] at hr ⊢
   simp only [AV.fr] at hk
   obtain ⟨l, hl, hm⟩ := hr
   exact ⟨l, h _ _ _ hk hl, hm⟩
 | .agg fs, true, _, hk, hr => by simp only [Rel] at hr ⊢; simp only [AV.fr] at hk; exact RelF.frC h fs _ hk hr
 | .agg fs, false, _, hk, hr => by
   simp only [Rel] at hr ⊢
   simp only [AV.fr] at hk
   obtain ⟨arr, e, hf⟩ := hr
   exact ⟨arr, e, RelF.frC h fs _ hk hf⟩
 | .tup vs, false, _, hk, hr => by
   simp only [Rel] at hr ⊢
   simp only [AV.fr] at hk
   obtain ⟨arr, e, hf⟩ := hr
   exact ⟨arr, e, RelT.frC h vs _ hk hf⟩
 | .tup _, true, _, _, hr => by simp [Rel] at hr
 | .iface _ v, _, _, hk, hr => by
   simp only [Rel] at hr ⊢
   simp only [AV.fr] at hk
   obtain ⟨x, e, hx⟩ := hr
   exact ⟨x, e, Rel.frC h v _ _ hk hx⟩
 | .rp _, _, _, hk, _ => by simp [AV.fr] at hk
 | .sl _ _, _, _, hk, _ => by simp [AV.fr] at hk
 | .fn _ _ _, _, _, hk, _ => by simp [AV.fr] at hk
 | .omap _, _, _, hk, _ => by simp [AV.fr] at hk
 | .opt _ _, _, _, hk, _ => by simp [AV.fr] at hk
 | .raw _, _, _, hk, _ => by simp [AV.fr] at hk
 | .junk, _, _, hk, _ => by simp [AV.fr] at hk
theorem RelF.frC {c c' : Ctx} {n : Nat} (h : ∀ k v l, n ≤ k → c.ρ k v = some l → c'.ρ k v = some l) : ∀ (fs : List AV) (cs : List Value), MO n fs → RelF c fs cs → RelF c' fs cs
 | [], _, _, hr => by simpa [RelF] using hr
 | f :: fs, _, hk, hr => by
   simp only [RelF] at hr ⊢
   simp only [MO] at hk
   obtain ⟨c1, c2, e, h1, h2⟩ := hr
   exact ⟨c1, c2, e, Rel.frC h f _ _ hk.1 h1, RelF.frC h fs _ hk.2 h2⟩
theorem RelT.frC {c c' : Ctx} {n : Nat} (h : ∀ k v l, n ≤ k → c.ρ k v = some l → c'.ρ k v = some l) : ∀ (fs : List AV) (cs : List Value), MO n fs → RelT c fs cs → RelT c' fs cs
 | [], _, _, hr => by simpa [RelT] using hr
 | f :: fs, _, hk, hr => by
   simp only [RelT] at hr ⊢
   simp only [MO] at hk
   obtain ⟨v, r, e, h1, h2⟩ := hr
   exact ⟨v, r, e, Rel.frC h f _ _ hk.1 h1, RelT.frC h fs _ hk.2 h2⟩
end
def Globs (H H0 : Heap) : Prop := ∀ k o, H0 k = some o → H k = some o ∧ ∃ e els, o = .glob e els ∧ MK 0 els
noncomputable def Ctx.lendC (c : Ctx) (H H0 : Heap) (w : World) : Ctx where
 ρ := fun k v => match H0 k with | some _ => c.ρ k v | none => none
 ro := (c.frz H 0 w).ro
theorem Ctx.lendC_low (c : Ctx) (H H0 : Heap) (w : World) : (c.frz H 0 w).low (c.lendC H H0 w) 0 := ⟨fun hk => by omega, fun hb => hb⟩
theorem FrzL.kls0 {H : Heap} {a b : List AV} (h : FrzL H 0 a b) {c : Ctx} {cs : List Value} {n : Nat} {w : World} (hs : Sim c H n w) (hr : RelT c a cs) : MK 0 b := by
 have := FrzL.relT hs h hr
 exact VG (c := c.frz H 0 w) (n := 0) (fun k v _ => by show (if k < 0 then c.ρ k v else none) = none; rw [if_neg (by omega)]) _ _ this
theorem Sim.lendC {c : Ctx} {H H0 : Heap} {n : Nat} {w : World} (hs : Sim c H n w) (hG : Globs H H0) : Sim (c.lendC H H0 w) H0 n w where
 ro := fun b a hb => by
   simp only [Ctx.lendC, Ctx.frz] at hb
   split at hb
   ·rename_i a' hr; cases hb; exact hs.ro b _ hr
   ·split at hb
    ·split at hb
     ·rename_i _ _ hw; cases hb; exact ⟨_, _, hw⟩
     ·simp at hb
    ·simp at hb
 own := fun k o hk => by
   obtain ⟨hH, e, els, rfl, hkl⟩ := hG k o hk
   have ho := hs.own k _ hH
   simp only [Ya] at ho ⊢
   obtain ⟨h1, h2, arr, ds, h3, h4, h5⟩ := ho
   refine ⟨by simp only [Ctx.lendC, hk]; exact h1, h2, arr, ds, (c.frz_low H 0 w).ro h3, ?_, h5⟩
   exact RelF.low (c := c) (c' := c.lendC H H0 w) (n := 0) ⟨fun hk => by omega, fun hb => (c.frz_low H 0 w).ro hb⟩ els ds hkl h4
 sep := fun k o b hk hb => by
   obtain ⟨hH, e, els, rfl, hkl⟩ := hG k o hk
   have ho := hs.own k _ hH
   simp only [Ya] at ho
   simp only [Zw, AObj.ver, Ctx.lendC, hk, ho.1] at hb
   simp at hb
 inj := fun k k' o o' b hk hk' hb _ => by
   obtain ⟨hH, e, els, rfl, hkl⟩ := hG k o hk
   have ho := hs.own k _ hH
   simp only [Ya] at ho
   simp only [Zw, AObj.ver, Ctx.lendC, hk, ho.1] at hb
   simp at hb
 fresh := fun k hk => by
   have h0 : H0 k = none := by
     cases h : H0 k with
     | none => rfl
     | some o => have := (hG k o h).1; rw [(hs.fresh k hk).1] at this; simp at this
   exact ⟨h0, fun v => by simp only [Ctx.lendC, h0]⟩
 vers := fun k o v hk hv => by
   obtain ⟨hH, _⟩ := hG k o hk
   simp only [Ctx.lendC, hk]
   exact hs.vers k o v hH hv
structure NewRes (n : Nat) (H0 : Heap) (res : ARes) (H' : Heap) (n' : Nat) : Prop where
 nn : n ≤ n'
 low : ∀ k, k < n → H' k = H0 k
 new : ∀ k o, n ≤ k → H' k = some o → ∃ v e els, o = .arr v e els ∧ MO n els
 val : match res with | .val r => r.fr n | .pan p => p.fr n
def Heap.over (n : Nat) (H H' : Heap) : Heap := fun k => if k < n then H k else H' k
theorem Zx.lend {P : Program} {f : FuncId} {args args' : List AV} {H H0 : Heap} {n : Nat} {K : ARes → Heap → Nat → Prop} (hG : Globs H H0) (hL : FrzL H 0 args args') (h : Zx P f args' H0 n K)
   (Y : ∀ res H' n', K res H' n' → NewRes n H0 res H' n') : Zx P f args H n (fun res H2 n2 => ∃ H', K res H' n2 ∧ H2 = Heap.over n H H') :=
 fun c w vs hs hr => (h (c.lendC H H0 w) w vs (hs.lendC hG) (RelT.low (c.lendC_low H H0 w) _ _ (hL.kls0 hs hr) (FrzL.relT hs hL hr))).mono fun e w' ⟨res, c', H', n', hk, hst, hm⟩ => by
   have hN := Y _ _ _ hk
   have hno : ∀ b, ¬ MC (c.lendC H H0 w) H0 b := fun b ⟨k, o, hk, hb⟩ => by
     obtain ⟨hH, e, els, rfl, hkl⟩ := hG k o hk
     have ho := hs.own k _ hH
     simp only [Ya] at ho
     simp only [Zw, AObj.ver, Ctx.lendC, hk, ho.1] at hb
     simp at hb
   have hkeep : ∀ b, b < w.heap.size → w'.heap[b]? = w.heap[b]? := fun b hb => hst.fr.keep b hb (hno b)
   have hnew : ∀ b k o, n ≤ k → H' k = some o → Zw c' k o = some b → w.heap.size ≤ b := fun b k o _ ho hb => by
     rcases hst.new b ⟨k, o, ho, hb⟩ with h | h
     ·exact absurd h (hno b)
     ·exact h
   let c2 : Ctx := { ρ := fun k v => if k < n then c.ρ k v else c'.ρ k v, ro := c.ro }
   have hle : c.le c2 := ⟨fun {k v l} hk => by
     show (if k < n then c.ρ k v else c'.ρ k v) = some l
     rcases Nat.lt_or_ge k n with h | h
     ·rw [if_pos h]; exact hk
     ·rw [(hs.fresh k h).2 v] at hk; simp at hk, fun hb => hb⟩
   have hlo : ∀ k v, k < n → c2.ρ k v = c.ρ k v := fun k v h => if_pos h
   have hhi : ∀ k v, n ≤ k → c2.ρ k v = c'.ρ k v := fun k v h => if_neg (by omega)
   have hblo : ∀ k o, k < n → Zw c2 k o = Zw c k o := fun k o h => by unfold Zw; rw [hlo _ _ h]
   have hbhi : ∀ k o, n ≤ k → Zw c2 k o = Zw c' k o := fun k o h => by unfold Zw; rw [hhi _ _ h]
   have hfr : ∀ k v l, n ≤ k → c'.ρ k v = some l → c2.ρ k v = some l := fun k v l hk h => by rw [hhi k v hk]; exact h
   have hlt : ∀ b a, c.ro b = some a → b < w.heap.size := fun b a hb => by
     obtain ⟨ty, fr, hw⟩ := hs.ro b a hb
     rcases Nat.lt_or_ge b w.heap.size with h | h
     ·exact h
     ·rw [Array.getElem?_eq_none h] at hw; simp at hw
   have hH2 : ∀ k o, Heap.over n H H' k = some o → (k < n ∧ H k = some o) ∨ (n ≤ k ∧ H' k = some o) := fun k o hk => by
     unfold Heap.over at hk
     split at hk
     ·rename_i h; exact .inl ⟨h, hk⟩
     ·rename_i h; exact .inr ⟨by omega, hk⟩
   refine ⟨res, c2, Heap.over n H H', n', ⟨H', hk, rfl⟩, ?_, ?_⟩
   ·exact {
      le := hle
      sim := {
        ro := fun b a hb => by
          obtain ⟨ty, fr, hw⟩ := hs.ro b a hb
          exact ⟨ty, fr, by rw [hkeep b (hlt b a hb)]; exact hw⟩
        own := fun k o hk => by
          rcases hH2 k o hk with ⟨h1, h2⟩ | ⟨h1, h2⟩
          ·exact (hs.own k o h2).mono hle fun b hb => hkeep b ((hs.own k o h2).lt hb)
          ·obtain ⟨v, e, els, rfl, hf⟩ := hN.new k o h1 h2
           have ho := hst.sim.own k _ h2
           simp only [Ya] at ho ⊢
           obtain ⟨l, hl, hm⟩ := ho
           refine ⟨l, hfr _ _ _ h1 hl, ?_⟩
           cases l with
           | nil => exact hm
           | blk b cap e' =>
             obtain ⟨q1, q2, q3, arr, ty, ds, q4, q5, q6, q7⟩ := hm
             exact ⟨q1, q2, q3, arr, ty, ds, q4, q5, RelF.frC hfr _ _ hf q6, q7⟩
        sep := fun k o b hk hb => by
          rcases hH2 k o hk with ⟨h1, h2⟩ | ⟨h1, h2⟩
          ·rw [hblo k o h1] at hb; exact hs.sep k o b h2 hb
          ·rw [hbhi k o h1] at hb
           have := hnew b k o h1 h2 hb
           cases hr : c.ro b with
           | none => rfl
           | some a => have := hlt b a hr; omega
        inj := fun k1 k2 o1 o2 b g1 g2 b1 b2 => by
          rcases hH2 k1 o1 g1 with ⟨h1, h2⟩ | ⟨h1, h2⟩ <;> rcases hH2 k2 o2 g2 with ⟨h3, h4⟩ | ⟨h3, h4⟩
          ·rw [hblo _ _ h1] at b1; rw [hblo _ _ h3] at b2; exact hs.inj k1 k2 o1 o2 b h2 h4 b1 b2
          ·rw [hblo _ _ h1] at b1; rw [hbhi _ _ h3] at b2
           have := hnew b k2 o2 h3 h4 b2
           have := (hs.own k1 o1 h2).lt b1
           omega
          ·rw [hbhi _ _ h1] at b1; rw [hblo _ _ h3] at b2
           have := hnew b k1 o1 h1 h2 b1
           have := (hs.own k2 o2 h4).lt b2
           omega
          ·rw [hbhi _ _ h1] at b1; rw [hbhi _ _ h3] at b2; exact hst.sim.inj k1 k2 o1 o2 b h2 h4 b1 b2
        fresh := fun k hk => by
          have hnk : n ≤ k := Nat.le_trans hN.nn hk
          exact ⟨by show (if k < n then H k else H' k) = none; rw [if_neg (by omega)]; exact (hst.sim.fresh k hk).1, fun v => by rw [hhi k v hnk]; exact (hst.sim.fresh k hk).2 v⟩
        vers := fun k o v hk hv => by
          rcases hH2 k o hk with ⟨h1, h2⟩ | ⟨h1, h2⟩
          ·rw [hlo k v h1]; exact hs.vers k o v h2 hv
          ·rw [hhi k v h1]; exact hst.sim.vers k o v h2 hv }
      fr := { os := hst.fr.os, tape := hst.fr.tape, output := hst.fr.output, size := hst.fr.size, keep := fun b hb _ => hkeep b hb }
      new := fun b ⟨k, o, hk, hb⟩ => by
        rcases hH2 k o hk with ⟨h1, h2⟩ | ⟨h1, h2⟩
        ·rw [hblo k o h1] at hb; exact .inl ⟨k, o, h2, hb⟩
        ·rw [hbhi k o h1] at hb; exact .inr (hnew b k o h1 h2 hb) }
   ·have hv := hN.val
    cases e with
    | returned v =>
      cases res with
      | val r => exact Rel.frC hfr _ _ _ hv hm
      | pan p => exact hm.elim
    | panicked ch =>
      cases res with
      | val r => exact hm.elim
      | pan p =>
        obtain ⟨v, e1, e2⟩ := hm
        exact ⟨v, e1, Rel.frC hfr _ _ _ hv e2⟩
    | outgrown => cases res <;> exact hm.elim
theorem Ret.lendQ {P : Program} {f : FuncId} {args args' : List AV} {H H0 : Heap} {n : Nat} {r : AV} (hG : Globs H H0) (hL : FrzL H 0 args args') (hr : r.fr n) (h : Ret P f args' H0 n r H0 n) : Ret P f args H n r H n := fun c w vs hs hrel => by
 have h0 : ∀ k, n ≤ k → H0 k = none := fun k hk => by
   cases he : H0 k with
   | none => rfl
   | some o => have := (hG k o he).1; rw [(hs.fresh k hk).1] at this; simp at this
 have heq : Heap.over n H H0 = H := funext fun k => by
   unfold Heap.over
   split
   ·rfl
   ·rw [h0 k (by omega), (hs.fresh k (by omega)).1]
 refine (Zx.lend hG hL h (fun res H' n' ⟨e1, e2, e3⟩ => ?_) c w vs hs hrel).mono fun e w' ⟨res, c', H', n', ⟨H1, ⟨e1, e2, e3⟩, e4⟩, hst, hm⟩ => ⟨res, c', H', n', ⟨e1, by rw [e4, e2, heq], e3⟩, hst, hm⟩
 subst e1; subst e2; subst e3
 exact ⟨Nat.le_refl _, fun _ _ => rfl, fun k o hk ho => by rw [h0 k hk] at ho; simp at ho, hr⟩
theorem Globs.none (H : Heap) : Globs H fun _ => none := fun k o h => by simp at h
def AV.nk : AV → Prop
 | .int _ _ => True
 | .bool _ => True
 | .str _ => True
 | .nilp => True
 | .nilsl => True
 | .nilf => True
 | .nilm => True
 | .nili => True
 | _ => False
theorem AV.nk.kl {a : AV} (h : a.nk) (n : Nat) : a.kl n := by cases a <;> first | trivial | exact h.elim
theorem AV.nk.fr {a : AV} (h : a.nk) (n : Nat) : a.fr n := by cases a <;> first | trivial | exact h.elim
mutual
inductive Own (H : Heap) : AV → AV → List Nat → Prop
 | nk {a : AV} : a.nk → Own H a a []
 | nilsl {e : Nat} : Own H .nilsl (.sl e []) []
 | osl {k ver len e : Nat} {els ys : List AV} {ks : List Nat} : H k = some (.arr ver e els) → len ≤ els.length → OwnL H (els.take len) ys ks → Own H (.osl k ver 0 len) (.sl e ys) (k :: ks)
 | agg {fs gs : List AV} {ks : List Nat} : OwnL H fs gs ks → Own H (.agg fs) (.agg gs) ks
 | tup {fs gs : List AV} {ks : List Nat} : OwnL H fs gs ks → Own H (.tup fs) (.tup gs) ks
inductive OwnL (H : Heap) : List AV → List AV → List Nat → Prop
 | nil : OwnL H [] [] []
 | cons {a b : AV} {l m : List AV} {ks js : List Nat} : Own H a b ks → OwnL H l m js → OwnL H (a :: l) (b :: m) (ks ++ js)
end
mutual
theorem Own.frz {H : Heap} {n : Nat} : ∀ {a b : AV} {ks : List Nat}, Own H a b ks → (∀ k ∈ ks, n ≤ k) → Frz H n a b
 | _, _, _, .nk h, _ => .kl (h.kl n)
 | _, _, _, .nilsl, _ => .nilsl
 | _, _, _, .osl h1 h2 h3, hk => .osl h1 (hk _ (by simp)) (by omega) (by rw [List.drop_zero]; exact OwnL.frz h3 fun k h => hk k (by simp [h]))
 | _, _, _, .agg h, hk => .agg (OwnL.frz h hk)
 | _, _, _, .tup h, hk => .tup (OwnL.frz h hk)
theorem OwnL.frz {H : Heap} {n : Nat} : ∀ {a b : List AV} {ks : List Nat}, OwnL H a b ks → (∀ k ∈ ks, n ≤ k) → FrzL H n a b
 | _, _, _, .nil, _ => .nil
 | _, _, _, .cons h1 h2, hk => .cons (Own.frz h1 fun k h => hk k (by simp [h])) (OwnL.frz h2 fun k h => hk k (by simp [h]))
end
mutual
theorem Own.frame {H H' : Heap} : ∀ {a b : AV} {ks : List Nat}, Own H a b ks → (∀ k ∈ ks, H' k = H k) → Own H' a b ks
 | _, _, _, .nk h, _ => .nk h
 | _, _, _, .nilsl, _ => .nilsl
 | _, _, _, .osl h1 h2 h3, hk => .osl ((hk _ (by simp)).trans h1) h2 (OwnL.frame h3 fun k h => hk k (by simp [h]))
 | _, _, _, .agg h, hk => .agg (OwnL.frame h hk)
 | _, _, _, .tup h, hk => .tup (OwnL.frame h hk)
theorem OwnL.frame {H H' : Heap} : ∀ {a b : List AV} {ks : List Nat}, OwnL H a b ks → (∀ k ∈ ks, H' k = H k) → OwnL H' a b ks
 | _, _, _, .nil, _ => .nil
 | _, _, _, .cons h1 h2, hk => .cons (Own.frame h1 fun k h => hk k (by simp [h])) (OwnL.frame h2 fun k h => hk k (by simp [h]))
end
mutual
theorem Own.fr {H : Heap} {n : Nat} : ∀ {a b : AV} {ks : List Nat}, Own H a b ks → (∀ k ∈ ks, n ≤ k) → a.fr n
 | _, _, _, .nk h, _ => h.fr n
 | _, _, _, .nilsl, _ => trivial
 | _, _, _, .osl _ _ _, hk => hk _ (by simp)
 | _, _, _, .agg h, hk => OwnL.fr h hk
 | _, _, _, .tup h, hk => OwnL.fr h hk
theorem OwnL.fr {H : Heap} {n : Nat} : ∀ {a b : List AV} {ks : List Nat}, OwnL H a b ks → (∀ k ∈ ks, n ≤ k) → MO n a
 | _, _, _, .nil, _ => trivial
 | _, _, _, .cons h1 h2, hk => ⟨Own.fr h1 fun k h => hk k (by simp [h]), OwnL.fr h2 fun k h => hk k (by simp [h])⟩
end
mutual
theorem Own.sz {H : Heap} : ∀ {a b : AV} {ks : List Nat}, Own H a b ks → a.sz = b.sz
 | _, _, _, .nk _ => rfl
 | _, _, _, .nilsl => rfl
 | _, _, _, .osl _ _ _ => rfl
 | _, _, _, .agg h => by simp only [AV.sz]; exact OwnL.szs h
 | _, _, _, .tup _ => rfl
theorem OwnL.szs {H : Heap} : ∀ {a b : List AV} {ks : List Nat}, OwnL H a b ks → AV.szs a = AV.szs b
 | _, _, _, .nil => rfl
 | _, _, _, .cons h1 h2 => by simp only [AV.szs]; rw [Own.sz h1, OwnL.szs h2]
end
theorem OwnL.len {H : Heap} : ∀ {a b : List AV} {ks : List Nat}, OwnL H a b ks → a.length = b.length
 | _, _, _, .nil => rfl
 | _, _, _, .cons _ h => by simp [h.len]
theorem OwnL.append {H : Heap} : ∀ {a b : List AV} {ks : List Nat}, OwnL H a b ks → ∀ {c d : List AV} {js : List Nat}, OwnL H c d js → OwnL H (a ++ c) (b ++ d) (ks ++ js)
 | _, _, _, .nil, _, _, _, h => h
 | _, _, _, .cons h1 h2, _, _, _, h => by rw [List.append_assoc]; exact .cons h1 (OwnL.append h2 h)
theorem OwnL.one {H : Heap} {a b : AV} {ks : List Nat} (h : Own H a b ks) : OwnL H [a] [b] ks := by
 have := OwnL.cons h (.nil (H := H)); simpa using this
theorem OwnL.snoc {H : Heap} {l m : List AV} {a b : AV} {ks js : List Nat} (h : OwnL H l m ks) (h' : Own H a b js) : OwnL H (l ++ [a]) (m ++ [b]) (ks ++ js) := h.append (.one h')
theorem M8 {H : Heap} : ∀ (l : List AV), (∀ x ∈ l, x.nk) → OwnL H l l []
 | [], _ => .nil
 | a :: l, h => .cons (.nk (h a (by simp))) (M8 l fun x hx => h x (by simp [hx]))
theorem OwnL.nth {H : Heap} : ∀ {a b : List AV} {ks : List Nat}, OwnL H a b ks → ∀ {i : Nat}, i < a.length → ∃ ks1 ks2 ks3, ks = ks1 ++ (ks2 ++ ks3) ∧ OwnL H (a.take i) (b.take i) ks1 ∧ Own H (nth a i) (nth b i) ks2 ∧ OwnL H (a.drop (i + 1)) (b.drop (i + 1)) ks3
 | _, _, _, .nil, i, hi => by simp at hi
 | _, _, _, .cons (ks := ks) (js := js) h1 h2, 0, _ => ⟨[], ks, js, rfl, .nil, h1, h2⟩
 | _, _, _, .cons (a := a) (b := b) (l := l) (m := m) (ks := ks) (js := js) h1 h2, i + 1, hi => by
   obtain ⟨k1, k2, k3, e, q1, q2, q3⟩ := OwnL.nth h2 (i := i) (by simpa using hi)
   exact ⟨ks ++ k1, k2, k3, by rw [e, List.append_assoc], .cons h1 q1, q2, q3⟩
mutual
theorem Own.objs {H : Heap} {n : Nat} : ∀ {a b : AV} {ks : List Nat}, Own H a b ks → (∀ k ∈ ks, n ≤ k) → ∀ k ∈ ks, ∃ v e els len, H k = some (.arr v e els) ∧ len ≤ els.length ∧ MO n (els.take len)
 | _, _, _, .nk h, _, k, hk => by simp at hk
 | _, _, _, .nilsl, _, k, hk => by simp at hk
 | _, _, _, .osl (len := len) h1 h2 h3, hn, k, hk => by
   rcases List.mem_cons.1 hk with rfl | hk
   ·exact ⟨_, _, _, len, h1, h2, OwnL.fr h3 fun k h => hn k (by simp [h])⟩
   ·exact OwnL.objs h3 (fun k h => hn k (by simp [h])) k hk
 | _, _, _, .agg h, hn, k, hk => OwnL.objs h hn k hk
 | _, _, _, .tup h, hn, k, hk => OwnL.objs h hn k hk
theorem OwnL.objs {H : Heap} {n : Nat} : ∀ {a b : List AV} {ks : List Nat}, OwnL H a b ks → (∀ k ∈ ks, n ≤ k) → ∀ k ∈ ks, ∃ v e els len, H k = some (.arr v e els) ∧ len ≤ els.length ∧ MO n (els.take len)
 | _, _, _, .nil, _, k, hk => by simp at hk
 | _, _, _, .cons h1 h2, hn, k, hk => by
   rcases List.mem_append.1 hk with h | h
   ·exact Own.objs h1 (fun k h => hn k (by simp [h])) k h
   ·exact OwnL.objs h2 (fun k h => hn k (by simp [h])) k h
end
structure Mine (H : Heap) (n : Nat) (b : AV) (a : AV) (ks : List Nat) (H' : Heap) (n' : Nat) : Prop where
 own : Own H' a b ks
 nd : ks.Nodup
 lo : ∀ k ∈ ks, n ≤ k ∧ k < n'
 low : ∀ k, k < n → H' k = H k
 nn : n ≤ n'
def OAns (H : Heap) (n : Nat) (b : AV) (res : ARes) (H' : Heap) (n' : Nat) : Prop := ∃ a ks, res = .val a ∧ Mine H n b a ks H' n'
theorem OAns.fin {P : Program} {f : FuncId} {args : List AV} {H : Heap} {n : Nat} {b : AV} (h : Zx P f args H n (OAns H n b)) : Ret P f args H n b H n :=
 Ret.fin (h.mono fun res H1 n1 ⟨a, ks, hr, hm⟩ => ⟨a, hr, hm.low, hm.own.frz fun k hk => (hm.lo k hk).1⟩)
end Go.Sx
namespace Go.Rt
open Go Go.Sx
structure Pile (n0 : Nat) (az bs : List AV) (ks : List Nat) (H : Heap) (n : Nat) : Prop where
 own : OwnL H az bs ks
 nd : ks.Nodup
 lo : ∀ k ∈ ks, n0 ≤ k ∧ k < n
theorem Pile.nil (n0 : Nat) (H : Heap) (n : Nat) : Pile n0 [] [] [] H n := ⟨.nil, List.nodup_nil, fun k h => by simp at h⟩
theorem Pile.on {n0 n n2 : Nat} {az bs : List AV} {ks : List Nat} {H H2 : Heap} (h : Pile n0 az bs ks H n) (hH : ∀ k, n0 ≤ k → k < n → H2 k = H k) (hn : n ≤ n2) : Pile n0 az bs ks H2 n2 :=
 ⟨h.own.frame fun k hk => hH k (h.lo k hk).1 (h.lo k hk).2, h.nd, fun k hk => ⟨(h.lo k hk).1, Nat.lt_of_lt_of_le (h.lo k hk).2 hn⟩⟩
theorem Pile.add {n0 n n2 : Nat} {az bs : List AV} {ks : List Nat} {H H2 : Heap} {a b : AV} {js : List Nat} (h : Pile n0 az bs ks H n) (hH : ∀ k, n0 ≤ k → k < n → H2 k = H k) (ho : Own H2 a b js) (hnd : js.Nodup) (hlo : ∀ k ∈ js, n ≤ k ∧ k < n2) (h0 : n0 ≤ n) (hn : n ≤ n2) : Pile n0 (az ++ [a]) (bs ++ [b]) (ks ++ js) H2 n2 where
 own := (h.own.frame fun k hk => hH k (h.lo k hk).1 (h.lo k hk).2).snoc ho
 nd := List.nodup_append.2 ⟨h.nd, hnd, fun a ha b hb e => by have := (h.lo a ha).2; have := (hlo b hb).1; omega⟩
 lo := fun k hk => by
   rcases List.mem_append.1 hk with h1 | h1
   ·have := h.lo k h1; omega
   ·have := hlo k h1; omega
theorem Pile.add1 {n0 n : Nat} {az bs : List AV} {ks : List Nat} {H : Heap} {a b : AV} (h : Pile n0 az bs ks H n) (ho : Own H a b [n]) (h0 : n0 ≤ n) : Pile n0 (az ++ [a]) (bs ++ [b]) (ks ++ [n]) H (n + 1) :=
 h.add (fun _ _ _ => rfl) ho (List.nodup_cons.2 ⟨by simp, List.nodup_nil⟩) (fun k hk => by simp at hk; omega) h0 (by omega)
theorem Pile.list {kl n ver e len : Nat} {els ys : List AV} {ks : List Nat} {H : Heap} (h : Pile (kl + 1) (els.take len) ys ks H n) (hk : H kl = some (.arr ver e els)) (hl : len ≤ els.length) (hn : kl < n) : Own H (.osl kl ver 0 len) (.sl e ys) (kl :: ks) ∧ (kl :: ks).Nodup ∧ ∀ k ∈ kl :: ks, kl ≤ k ∧ k < n :=
 ⟨.osl hk hl h.own, List.nodup_cons.2 ⟨fun hm => by have := (h.lo _ hm).1; omega, h.nd⟩, fun k hk => by
   rcases List.mem_cons.1 hk with rfl | hk
   ·exact ⟨Nat.le_refl _, hn⟩
   ·have := h.lo k hk; omega⟩
theorem Pile.addList {n0 kl n ver e len : Nat} {az bs els more ys : List AV} {ks1 ks2 : List Nat} {H H2 : Heap} (h1 : Pile n0 az bs ks1 H kl) (h2 : Pile (kl + 1) els ys ks2 H n) (hk : H2 kl = some (.arr ver e (els ++ more))) (hl : len = els.length)
   (hH : ∀ k, n0 ≤ k → k ≠ kl → k < n → H2 k = H k) (h0 : n0 ≤ kl) (hn : kl < n) : Pile n0 (az ++ [.osl kl ver 0 len]) (bs ++ [.sl e ys]) (ks1 ++ (kl :: ks2)) H2 n := by
 subst hl
 have h3 : Pile (kl + 1) ((els ++ more).take els.length) ys ks2 H2 n := by
   rw [List.take_left]; exact h2.on (fun k a b => hH k (by omega) (by omega) b) (Nat.le_refl _)
 obtain ⟨g1, g2, g3⟩ := h3.list hk (by simp) hn
 exact h1.add (fun k a b => hH k a (by omega) (by omega)) g1 g2 g3 h0 (by omega)
def marks : List UInt8 := [201, 202, 203] ++ List.replicate 70 206
theorem nks_bytes (l : List UInt8) : ∀ x ∈ l.map Zn, x.nk := fun x hx => by
 obtain ⟨b, _, rfl⟩ := List.mem_map.1 hx; trivial
theorem own_bytes {H : Heap} {k ver len : Nat} {l : List UInt8} (h : H k = some (.arr ver 1 (l.map Zn))) (hl : len ≤ l.length) : Own H (.osl k ver 0 len) (bys (l.take len)) [k] :=
 .osl h (by simpa using hl) (by rw [← List.map_take]; exact M8 _ (nks_bytes _))
theorem Ww {H : Heap} {k : Nat} {m x : List UInt8} {ver : Nat} (h : H k = some (.arr ver 1 ((m ++ x).map Zn))) : Own H (.osl k ver 0 m.length) (bys m) [k] := by
 have := own_bytes (len := m.length) h (by simp)
 rwa [List.take_left] at this
end Go.Rt
namespace Go.Proofs.YtifnhpmeoogedaaGreatDoor
open Go Go.Sx Go.Rt Go.Proofs Tryz
theorem YV (b : List UInt8) (k : Int) (hk0 : 0 ≤ k) (hk1 : k ≤ 1048576) (H : Heap) (n : Nat) : Ret prog 25 [bys b, .int .i64 k] H n (.osl n 72 0 (b.take k.toNat).length) (H.put n (some (.arr 72 1 ((b.take k.toNat ++ marks).map Zn)))) (n + 1) := by
 generalize hw : b.take k.toNat = w
 refine Zc func25 rfl ntmps25 (congrArg Array.toList results25) (by simp) ?_
 simp only [go_sem]
 refine Za zs [0, 1] fun K Y => ?_
 simp only [go_sem, seval]
 apply Y; clear Y K
 refine Yi [0] (fun T' H' n' => T' = tl [(0, bys w)] ∧ H' = H ∧ n' = n) ?_ ?_
 ·refine Za zs [0, 1, 10] fun K Y => ?_
  simp only [go_sem, seval, List.length_map]
  apply Y; clear Y K
  refine Ze ?_ ?_ <;> intro hb
  ·refine Zl zs [0] fun K Y => ?_
   simp only [go_sem, seval, List.length_map]
   repeat (first | refine peel ?_ | refine ⟨by exact ⟨by simp, by simpa using hk0, by simp at hb ⊢; omega, fun m h => h.elim⟩, ?_⟩)
   apply Y; clear Y K
   simp only [go_sem, seval]
   (simp [List.map_take, ← hw]; done)
  refine Zd ?_
  simp only [go_sem, seval]
  (rw [← hw, List.take_of_length_le (by have := of_decide_eq_false hb; omega)])
 rintro T1 H1 n1 ⟨rfl, rfl, rfl⟩
 have hm : w.length ≤ 1048576 := by rw [← hw]; simp; omega
 refine Za zs [0, 5] fun K Y => ?_
 simp only [go_sem, seval]
 apply Y; clear Y K
 refine Yb 5 1 rfl ?_
 simp only [go_sem, seval]
 refine Za zs [0, 5] fun K Y => ?_
 simp only [go_sem, seval, List.length_map]
 repeat (first | refine peel ?_ | refine ⟨by exact ⟨.inr trivial, by omega, by omega⟩, ?_⟩)
 apply Y; clear Y K
 refine Za zs [0, 5] fun K Y => ?_
 simp only [go_sem, seval, List.length_map]
 repeat (first | refine peel ?_ | refine ⟨by exact ⟨by simp; try omega, .inr trivial, by omega, by omega⟩, ?_⟩)
 apply Y; clear Y K
 refine Zb fun K1 hK1 => ?_
 refine Za zs [0, 5, 6] fun K Y => ?_
 simp only [go_sem, seval]
 apply Y; clear Y K
 refine Zj ?_
 refine Zz (fun T' H' n' => ∃ (i : Nat), i ≤ 70 ∧ T' = tl [(0, bys w), (5, .osl n1 (2 + i) 0 (w.length + 3 + i)), (6, .int .i64 i)] ∧ H' = H1.put n1 (some (.arr (2 + i) 1 ((w ++ [201, 202, 203] ++ List.replicate i 206).map Zn))) ∧ n' = n1 + 1) (fun T' _ _ => 70 - iv (T' 6)) ?_ ?_
 ·exact ⟨0, by omega, rfl, by rw [List.take_of_length_le (by simp), List.map_append, List.map_append]; simp; rfl, rfl⟩
 intro T1 H1 n1
 rintro ⟨i, hi, rfl, rfl, rfl⟩
 refine Zb fun K2 hK2 => ?_
 refine Za zs [0, 5, 6, 21] fun K Y => ?_
 simp only [go_sem, seval]
 apply Y; clear Y K
 refine Ze ?_ ?_ <;> intro hb
 ·have hlt : i < 70 := by have := of_decide_eq_true hb; omega
  refine Zd ?_
  simp only [go_sem, seval]
  apply hK2
  clear hK2 K2
  refine Zb fun K3 hK3 => ?_
  refine Zj ?_
  refine Zl zs [0, 5, 6] fun K Y => ?_
  simp only [go_sem, seval, List.length_map]
  repeat (first | refine peel ?_ | refine ⟨by exact ⟨by simp; try omega, .inr trivial, by omega, by omega⟩, ?_⟩)
  apply Y; clear Y K
  simp only [go_sem, seval]
  apply hK3
  clear hK3 K3
  refine Zl zs [0, 5, 6] fun K Y => ?_
  simp only [go_sem, seval]
  apply Y; clear Y K
  simp only [go_sem, seval]
  refine ⟨⟨i + 1, by omega, by rw [w1 (by omega)]; rfl, ?_⟩, by rw [w1 (by omega)]; simp; omega⟩
  rw [List.take_of_length_le (by simp; omega), List.replicate_succ', ← List.append_assoc, List.map_append (l₂ := [206])]; rfl
 have hi7 : i = 70 := by have := of_decide_eq_false hb; omega
 subst hi7
 refine ZA ?_
 simp only [go_sem, seval]
 apply hK1
 refine Za zs [4] fun K Y => ?_
 simp only [go_sem, seval, List.length_map, Option.getD_some, Option.getD_none, Int.toNat_natCast]
 repeat (first | refine peel ?_ | refine ⟨by exact ⟨by omega, by omega, fun m h => h.elim⟩, ?_⟩)
 apply Y; clear Y K
 refine Zf ?_
 simp only [go_sem, seval]
 exact ⟨by rw [Nat.sub_zero], by rw [List.append_assoc]; rfl⟩
end Go.Proofs.YtifnhpmeoogedaaGreatDoor
namespace Go.Rt
open Go Go.Sx
def cmdX (c : CmdE) (whr : List UInt8) (row conds ops frm to fams pre token : AV) : AV :=
 .agg [.int .i64 c.kind, .int .i64 c.client, .int .i64 c.serial, row, conds, ops, .int .i64 c.n, .agg [frm, to, fams, pre, .int .i64 c.q.time, .int .i64 c.q.n, .int .i64 c.q.rows, .bool c.q.rev, .str whr, token]]
theorem own_cmdX {H : Heap} (c : CmdE) (whr : List UInt8) {r d o f t m p k r' d' o' f' t' m' p' k' : AV} {ks : List Nat} (h : OwnL H [r, d, o, f, t, p, k, m] [r', d', o', f', t', p', k', m'] ks) :
   ∃ ks', ks'.Perm ks ∧ Own H (cmdX c whr r d o f t m p k) (cmdX c whr r' d' o' f' t' m' p' k') ks' := by
 cases h with | cons h1 h =>
 cases h with | cons h2 h =>
 cases h with | cons h3 h =>
 cases h with | cons h4 h =>
 cases h with | cons h5 h =>
 cases h with | cons h6 h =>
 cases h with | cons h7 h =>
 cases h with | cons h8 h =>
 cases h with | nil =>
 refine ⟨_, ?_, .agg (.cons (.nk trivial) (.cons (.nk trivial) (.cons (.nk trivial) (.cons h1 (.cons h2 (.cons h3 (.cons (.nk trivial) (.cons (.agg (.cons h4 (.cons h5 (.cons h8 (.cons h6 (.cons (.nk trivial) (.cons (.nk trivial) (.cons (.nk trivial) (.cons (.nk trivial) (.cons (.nk trivial) (.cons h7 .nil))))))))))) .nil))))))))⟩
 refine List.perm_iff_count.2 fun a => ?_
 simp only [List.count_append, List.count_nil]
 omega
theorem own_cond {H : Heap} {k1 k2 v1 v2 : Nat} {x : YF} {y1 y2 : List UInt8} (h1 : H k1 = some (.arr v1 1 ((x.qual.take 5000 ++ y1).map Zn))) (h2 : H k2 = some (.arr v2 1 ((x.value.take 5000 ++ y2).map Zn))) :
   Own H (.agg [.int .i64 x.kind, .int .i64 x.fam, .osl k1 v1 0 (x.qual.take 5000).length, .osl k2 v2 0 (x.value.take 5000).length]) (Zu (QG x)) [k1, k2] :=
 .agg (.cons (ks := []) (.nk trivial) (.cons (ks := []) (.nk trivial) (.cons (ks := [k1]) (Ww h1) (.cons (ks := [k2]) (js := []) (Ww h2) .nil))))
theorem own_op {H : Heap} {k1 k2 v1 v2 : Nat} {x : OpE} {y1 y2 : List UInt8} (h1 : H k1 = some (.arr v1 1 ((x.qual.take 5000 ++ y1).map Zn))) (h2 : H k2 = some (.arr v2 1 ((x.value.take 5000 ++ y2).map Zn))) :
   Own H (.agg [.int .i64 x.kind, .int .i64 x.fam, .osl k1 v1 0 (x.qual.take 5000).length, .int .i64 x.ts, .osl k2 v2 0 (x.value.take 5000).length, .int .i64 x.delta]) (opAV (opT x)) [k1, k2] :=
 .agg (.cons (ks := []) (.nk trivial) (.cons (ks := []) (.nk trivial) (.cons (ks := [k1]) (Ww h1) (.cons (ks := []) (.nk trivial) (.cons (ks := [k2]) (js := []) (Ww h2) (.cons (ks := []) (js := []) (.nk trivial) .nil))))))
theorem cmd_end {H0 H : Heap} {n0 n : Nat} {c : CmdE} {whr : List UInt8} {r d o f t m p k r' d' o' f' t' m' p' k' R : AV} {ks : List Nat} (hp : Pile (n0 + 2) [r, d, o, f, t, p, k, m] [r', d', o', f', t', p', k', m'] ks H n) (hlow : ∀ j, j < n0 → H j = H0 j) (hn : n0 ≤ n)
   (hR : R = cmdX c whr r' d' o' f' t' m' p' k') : OAns H0 n0 R (.val (cmdX c whr r d o f t m p k)) H n := by
 obtain ⟨ks', hpm, ho⟩ := own_cmdX c whr hp.own
 exact ⟨_, ks', rfl, hR ▸ ho, hpm.nodup_iff.2 hp.nd, fun j hj => by have := hp.lo j (hpm.mem_iff.1 hj); omega, hlow, hn⟩
def CmdAns (H0 : Heap) (n0 : Nat) (c : CmdE) (res : ARes) (H : Heap) (n : Nat) : Prop := ∃ kr vr lr kc vc lc ko vo lo kf vf lf kt vt lt kp vp lp kk vk lk km vm lm ks,
 res = .val (cmdX c c.q.whr (.osl kr vr 0 lr) (.osl kc vc 0 lc) (.osl ko vo 0 lo) (.osl kf vf 0 lf) (.osl kt vt 0 lt) (.osl km vm 0 lm) (.osl kp vp 0 lp) (.osl kk vk 0 lk)) ∧
 Pile (n0 + 2) [.osl kr vr 0 lr, .osl kc vc 0 lc, .osl ko vo 0 lo, .osl kf vf 0 lf, .osl kt vt 0 lt, .osl kp vp 0 lp, .osl kk vk 0 lk, .osl km vm 0 lm] [bys c.row, .sl 4 (c.conds.map Zu), .sl 6 (c.ops.map opAV), bys c.q.frm, bys c.q.to, bys c.q.pre, bys c.q.token, Zr c.q.fams] ks H n ∧
 (∀ j, j < n0 → H j = H0 j) ∧ n0 ≤ n
theorem CmdAns.oans {H0 : Heap} {n0 : Nat} {c : CmdE} {res : ARes} {H : Heap} {n : Nat} (h : CmdAns H0 n0 c res H n) : OAns H0 n0 (Zh c) res H n := by
 obtain ⟨kr, vr, lr, kc, vc, lc, ko, vo, lo, kf, vf, lf, kt, vt, lt, kp, vp, lp, kk, vk, lk, km, vm, lm, ks, rfl, hp, hlow, hn⟩ := h
 exact cmd_end (c := c) (whr := c.q.whr) hp hlow hn rfl
end Go.Rt
namespace Go.Proofs.YtifnhpmeoogedaaGreatDoor
open Go Go.Sx Go.Rt Go.Proofs Tryz
theorem cmdX_of (c : CmdE) : Zh c = cmdX c c.q.whr (bys c.row) (.sl 4 (c.conds.map Zu)) (.sl 6 (c.ops.map opAV)) (bys c.q.frm) (bys c.q.to) (Zr c.q.fams) (bys c.q.pre) (bys c.q.token) := rfl
set_option maxRecDepth 100000 in
set_option maxHeartbeats 3200000 in
theorem KE (c : CmdE) (H : Heap) (n : Nat) : Zx prog 14 [Zh c] H n (CmdAns H n (cmdT c)) := by
 have r1 : (0 : Nat) = 0 := rfl
 have r2 := r1
 have r3 := r1
 have hmk : (5000 : Int).toNat = 5000 := rfl
 obtain ⟨rl, hrl⟩ : ∃ l, l = (c.row.take 5000).length := ⟨_, rfl⟩
 rw [cmdX_of c]
 refine Zc func14 rfl ntmps14 (congrArg Array.toList results14) (by simp) ?_
 simp only [go_sem]
 refine Za zs [1, 2] fun K Y => ?_
 simp only [go_sem, seval, cmdX, Zr]
 apply Y; clear Y K
 refine Za zs [1, 2] fun K Y => ?_
 simp only [go_sem, seval]
 refine Zg func25 rfl rfl rfl ((YV c.row 5000 (by decide) (by decide) _ _)) ?_
 simp only [go_sem, seval, hmk]
 apply Y; clear Y K
 refine Za zs [1, 2, 3] fun K Y => ?_
 simp only [go_sem, seval]
 apply Y; clear Y K
 refine Zb fun K1 hK1 => ?_
 refine Za zs [1, 2, 3, 4] fun K Y => ?_
 simp only [go_sem, seval]
 apply Y; clear Y K
 refine Zj ?_
 refine Yb 3 4 rfl ?_
 refine YR [1, 2, 3, 4] ?_
 simp only [go_sem, seval]
 refine Zz (fun T' H' n' => ∃ (i ver : Nat) (els : List AV) (ks1 ks2 : List Nat), i ≤ c.conds.length ∧ i ≤ 20 ∧ els.length = i ∧ T' = tl [(1, .loc n 0 0 0 []), (2, .loc (n + 1) 0 0 0 []), (3, .osl (n + 3) ver 0 i), (4, .int .i64 i)] ∧ H' n = some (.arr 0 17 [cmdX c c.q.whr (.osl (n + 2) 72 0 rl) (.sl 4 (c.conds.map Zu)) (.sl 6 (c.ops.map opAV)) (bys c.q.frm) (bys c.q.to) (Zr c.q.fams) (bys c.q.pre) (bys c.q.token)]) ∧ H' (n + 3) = some (.arr ver 4 els) ∧ H' (n + 1) = some (.arr 0 17 [cmdZ]) ∧ Pile (n + 2) [.osl (n + 2) 72 0 rl] [bys (c.row.take 5000)] ks1 H' (n + 3) ∧ Pile (n + 4) els (((c.conds.take i).map QG).map Zu) ks2 H' n' ∧ (∀ k, k < n → H' k = H k) ∧ n + 4 ≤ n') (fun T' _ _ => c.conds.length - iv (T' 4)) ?_ ?_
 ·subst hrl
  exact ⟨0, 0, [], [n + 2], [], by omega, by omega, rfl, rfl, by simp [Heap.put, cmdX, bys, Zr]; omega, MG _ _ _, by simp [Heap.put]; rfl, ⟨.one (Ww (x := marks) (ver := 72) (by simp [Heap.put])), by simp, fun k hk => by simp at hk; omega⟩, Pile.nil _ _ _, fun k hk => by simp only [MF]; (repeat rw [if_neg (by omega)]), by omega⟩
 intro T1 H1 n1
 rintro ⟨i, ver, els, ks1, ks2, hi, hi2, hel, rfl, r1, r2, hres, hp1, hp2, hlow, hnn⟩
 refine Zb fun K2 hK2 => ?_
 refine Za zs [1, 2, 3, 4, 23] fun K Y => ?_
 simp only [go_sem, seval, r1, bys, List.length_map, cmdX, Zr]
 repeat refine peel ?_
 apply Y; clear Y K
 refine Ze ?_ ?_ <;> intro hb
 ·have hlt : i < c.conds.length ∧ i < 20 := by simp at hb; omega
  have hn1 : nth (c.conds.map Zu) i = Zu (c.conds.getD i default) := ZF Zu c.conds i hlt.1
  have htk := Qr c.conds hlt.1
  generalize c.conds.getD i default = x at *
  have hE : els.take i = els := List.take_of_length_le (by omega)
  have e1 : (n + 3 = n1) = False := by simp; omega
  have e2 : (n = n1) = False := by simp; omega
  have e3 : (n + 3 = n1 + 1) = False := by simp; omega
  have e4 : (n + 3 = n1 + 2) = False := by simp; omega
  have e5 : (n + 3 = n1 + 1 + 1) = False := by simp; omega
  refine Zd ?_
  simp only [go_sem, seval, bys, cmdX, Zr]
  apply hK2
  clear hK2 K2
  refine Zb fun K3 hK3 => ?_
  refine Zj ?_
  refine Za zs [1, 2, 3, 4, 5] fun K Y => ?_
  simp only [go_sem, seval, r1, bys, List.length_map, cmdX, Zr, Int.toNat_natCast, hn1, Zu]
  repeat refine peel ?_
  apply Y; clear Y K
  refine Za zs [1, 2, 3, 4, 5] fun K Y => ?_
  simp only [go_sem, seval, bys, cmdX, Zr]
  refine Zg func25 rfl rfl rfl ((YV x.qual 5000 (by decide) (by decide) _ _)) ?_
  simp only [go_sem, seval, hmk]
  apply Y; clear Y K
  refine Za zs [1, 2, 3, 4, 5] fun K Y => ?_
  simp only [go_sem, seval, bys, cmdX, Zr]
  refine Zg func25 rfl rfl rfl ((YV x.value 5000 (by decide) (by decide) _ _)) ?_
  simp only [go_sem, seval, hmk]
  apply Y; clear Y K
  refine Zl zs [1, 2, 3, 4] fun K Y => ?_
  simp only [go_sem, seval, r2, bys, cmdX, Zr, e1, e3, e4, hE]
  repeat (first | refine peel ?_ | (refine And.intro ?_ ?_; · first | exact ⟨by omega, .inr trivial, by omega, by omega⟩ | exact ⟨rfl, by simp [AV.sz, AV.szs, AV.memOK]⟩))
  apply Y; clear Y K
  simp only [go_sem, seval, bys, cmdX, Zr]
  apply hK3
  clear hK3 K3
  refine Zl zs [1, 2, 3, 4] fun K Y => ?_
  simp only [go_sem, seval, bys, cmdX, Zr]
  apply Y; clear Y K
  simp only [go_sem, seval, r1, bys, cmdX, Zr]
  refine ⟨⟨i + 1, ver + 1, _, ks1, ks2 ++ [n1 + 1, n1 + 2], by omega, by omega, ?_, by rw [w1 (by omega)], ?_, rfl, ?_, ?_, ?_, fun k hk => ?_, by omega⟩, by rw [w1 (by omega)]; simp; omega⟩
  ·simp [hel]
  ·(repeat rw [if_neg (by omega)])
  ·(repeat rw [if_neg (by omega)]); exact hres
  ·exact hp1.on (fun k h1 h2 => by simp only [MF]; repeat rw [if_neg (by omega)]) (by omega)
  ·rw [htk, List.map_append, List.map_append]
   exact hp2.add (fun k h1 h2 => by simp only [MF]; repeat rw [if_neg (by omega)]) (own_cond (y1 := marks) (y2 := marks) (by simp only [MF]; (repeat rw [if_neg (by omega)]); simp) (by simp only [MF]; (repeat rw [if_neg (by omega)]); simp)) (by simp) (fun k hk => by simp at hk; omega) (by omega) (by omega)
  ·(repeat rw [if_neg (by omega)])
   exact hlow k hk
 have hw4 : IntKind.i64.wrap (((i + 4 : Nat) : Int) - 4) = i := by rw [w64 (by omega) (by omega)]; omega
 have hci : c.conds.take i = c.conds.take 20 := by
   rcases Nat.lt_or_ge i c.conds.length with h | h
   ·have : i = 20 := by simp [h] at hb; omega
    rw [this]
   ·rw [List.take_of_length_le h, List.take_of_length_le (by omega)]
 rw [hci] at hp2
 have hE : els.take i = els := List.take_of_length_le (by omega)
 refine ZA ?_
 simp only [go_sem, seval, bys, cmdX, Zr]
 apply hK1
 refine Za zs [1, 2, 3] fun K Y => ?_
 simp only [go_sem, seval, r2, hE]
 repeat (first | refine peel ?_ | refine ⟨by exact ⟨by omega, .inr trivial, by omega, by omega⟩, ?_⟩)
 apply Y; clear Y K
 have e1 : (n = n + 3) = False := by simp
 refine Za zs [1, 2] fun K Y => ?_
 simp only [go_sem, seval, r1, bys, cmdX, Zr, hw4, Int.toNat_natCast, Option.getD_some, Option.getD_none, List.length_cons, List.length_nil]
 repeat (first | refine peel ?_ | refine ⟨by exact ⟨by omega, by omega, fun m h => h.elim⟩, ?_⟩)
 apply Y; clear Y K
 refine Yh (fun H' n' => ∃ vc ic ks, H' n = some (.arr 0 17 [cmdX c c.q.whr (.osl (n + 2) 72 0 rl) (.osl (n + 3) vc 0 ic) (.sl 6 (c.ops.map opAV)) (bys c.q.frm) (bys c.q.to) (Zr c.q.fams) (bys c.q.pre) (bys c.q.token)]) ∧ H' (n + 1) = some (.arr 0 17 [cmdZ]) ∧ Pile (n + 2) [.osl (n + 2) 72 0 rl, .osl (n + 3) vc 0 ic] [bys (c.row.take 5000), .sl 4 (((c.conds.take 20).map QG).map Zu)] ks H' n' ∧ (∀ k, k < n → H' k = H k) ∧ n + 4 ≤ n') ⟨ver + 1, i, _, MG _ _ _, by simp only [MF]; (repeat rw [if_neg (by omega)]); exact hres, by
   exact hp1.addList hp2 (by rw [ME _ _ (by omega)]; exact MG _ _ _) hel.symm (fun k h1 h2 h3 => by simp only [MF]; repeat rw [if_neg (by omega)]) (by omega) (by omega), fun k hk => by simp only [MF]; (repeat rw [if_neg (by omega)]); exact hlow k hk, by omega⟩ fun H2 n2 ⟨vc, ic, ks, q1, hres, hp, qlow, qnn⟩ => ?_
 clear hlow hnn r1 r2 hK1 hK2 hb hw4 hi hi2 hp1 hp2 hE hci hel
 refine Za zs [1, 2, 6] fun K Y => ?_
 simp only [go_sem, seval]
 apply Y; clear Y K
 refine Zb fun K4 hK4 => ?_
 refine Za zs [1, 2, 6, 7] fun K Y => ?_
 simp only [go_sem, seval]
 apply Y; clear Y K
 refine Zj ?_
 refine Yb 6 6 rfl ?_
 refine YR [1, 2, 6, 7] ?_
 simp only [go_sem, seval]
 refine Zz (fun T' H' n' => ∃ (j v6 : Nat) (els : List AV) (ks2 : List Nat), j ≤ c.ops.length ∧ j ≤ 20 ∧ els.length = j ∧ T' = tl [(1, .loc n 0 0 0 []), (2, .loc (n + 1) 0 0 0 []), (6, .osl n2 v6 0 j), (7, .int .i64 j)] ∧ H' n = some (.arr 0 17 [cmdX c c.q.whr (.osl (n + 2) 72 0 rl) (.osl (n + 3) vc 0 ic) (.sl 6 (c.ops.map opAV)) (bys c.q.frm) (bys c.q.to) (Zr c.q.fams) (bys c.q.pre) (bys c.q.token)]) ∧ H' n2 = some (.arr v6 6 els) ∧ H' (n + 1) = some (.arr 0 17 [cmdZ]) ∧ Pile (n + 2) [.osl (n + 2) 72 0 rl, .osl (n + 3) vc 0 ic] [bys (c.row.take 5000), .sl 4 (((c.conds.take 20).map QG).map Zu)] ks H' n2 ∧ Pile (n2 + 1) els (((c.ops.take j).map opT).map opAV) ks2 H' n' ∧ (∀ k, k < n → H' k = H k) ∧ n2 + 1 ≤ n') (fun T' _ _ => c.ops.length - iv (T' 7)) ?_ ?_
 ·exact ⟨0, 0, [], [], by omega, by omega, rfl, rfl, by rw [ME _ _ (by omega)]; exact q1, MG _ _ _, by rw [ME _ _ (by omega)]; exact hres, hp.on (fun k h1 h2 => ME _ _ (by omega)) (Nat.le_refl _), Pile.nil _ _ _, fun k hk => by rw [ME _ _ (by omega)]; exact qlow k hk, by omega⟩
 intro T1 H1 n1
 rintro ⟨j, v6, els, ks2, hj, hj2, hel, rfl, r1, r2, hres, hp1, hp2, qlow2, qnn2⟩
 refine Zb fun K5 hK5 => ?_
 refine Za zs [1, 2, 6, 7, 64] fun K Y => ?_
 simp only [go_sem, seval, r1, bys, List.length_map, cmdX, Zr]
 repeat refine peel ?_
 apply Y; clear Y K
 refine Ze ?_ ?_ <;> intro hb
 ·have hlt : j < c.ops.length ∧ j < 20 := by simp at hb; omega
  have hn1 : nth (c.ops.map opAV) j = opAV (c.ops.getD j default) := ZF opAV c.ops j hlt.1
  have htk := Qr c.ops hlt.1
  generalize c.ops.getD j default = x at *
  have hE : els.take j = els := List.take_of_length_le (by omega)
  have e1 : (n2 = n1) = False := by simp; omega
  have e2 : (n = n1) = False := by simp; omega
  have e3 : (n2 = n1 + 1) = False := by simp; omega
  have e4 : (n2 = n1 + 2) = False := by simp; omega
  have e5 : (n2 = n1 + 1 + 1) = False := by simp; omega
  refine Zd ?_
  simp only [go_sem, seval, bys, cmdX, Zr]
  apply hK5
  clear hK5 K5
  refine Zb fun K6 hK6 => ?_
  refine Zj ?_
  refine Za zs [1, 2, 6, 7, 8] fun K Y => ?_
  simp only [go_sem, seval, r1, bys, List.length_map, cmdX, Zr, Int.toNat_natCast, hn1, opAV]
  repeat refine peel ?_
  apply Y; clear Y K
  refine Za zs [1, 2, 6, 7, 8] fun K Y => ?_
  simp only [go_sem, seval, bys, cmdX, Zr]
  refine Zg func25 rfl rfl rfl ((YV x.qual 5000 (by decide) (by decide) _ _)) ?_
  simp only [go_sem, seval, hmk]
  apply Y; clear Y K
  refine Za zs [1, 2, 6, 7, 8] fun K Y => ?_
  simp only [go_sem, seval, bys, cmdX, Zr]
  refine Zg func25 rfl rfl rfl ((YV x.value 5000 (by decide) (by decide) _ _)) ?_
  simp only [go_sem, seval, hmk]
  apply Y; clear Y K
  refine Zl zs [1, 2, 6, 7] fun K Y => ?_
  simp only [go_sem, seval, r2, bys, cmdX, Zr, e1, e3, e4, hE]
  repeat (first | refine peel ?_ | (refine And.intro ?_ ?_; · first | exact ⟨by omega, .inr trivial, by omega, by omega⟩ | exact ⟨rfl, by simp [AV.sz, AV.szs, AV.memOK]⟩))
  apply Y; clear Y K
  simp only [go_sem, seval, bys, cmdX, Zr]
  apply hK6
  clear hK6 K6
  refine Zl zs [1, 2, 6, 7] fun K Y => ?_
  simp only [go_sem, seval, bys, cmdX, Zr]
  apply Y; clear Y K
  simp only [go_sem, seval, r1, bys, cmdX, Zr]
  refine ⟨⟨j + 1, v6 + 1, _, ks2 ++ [n1 + 1, n1 + 2], by omega, by omega, ?_, by rw [w1 (by omega)], ?_, rfl, ?_, ?_, ?_, fun k hk => ?_, by omega⟩, by rw [w1 (by omega)]; simp; omega⟩
  ·simp [hel]
  ·(repeat rw [if_neg (by omega)])
  ·(repeat rw [if_neg (by omega)]); exact hres
  ·exact hp1.on (fun k h1 h2 => by simp only [MF]; repeat rw [if_neg (by omega)]) (by omega)
  ·rw [htk, List.map_append, List.map_append]
   exact hp2.add (fun k h1 h2 => by simp only [MF]; repeat rw [if_neg (by omega)]) (own_op (y1 := marks) (y2 := marks) (by simp only [MF]; (repeat rw [if_neg (by omega)]); simp) (by simp only [MF]; (repeat rw [if_neg (by omega)]); simp)) (by simp) (fun k hk => by simp at hk; omega) (by omega) (by omega)
  ·(repeat rw [if_neg (by omega)])
   exact qlow2 k hk
 have hw4 : IntKind.i64.wrap (((j + 4 : Nat) : Int) - 4) = j := by rw [w64 (by omega) (by omega)]; omega
 have hci : c.ops.take j = c.ops.take 20 := by
   rcases Nat.lt_or_ge j c.ops.length with h | h
   ·have : j = 20 := by simp [h] at hb; omega
    rw [this]
   ·rw [List.take_of_length_le h, List.take_of_length_le (by omega)]
 rw [hci] at hp2
 have hE : els.take j = els := List.take_of_length_le (by omega)
 refine ZA ?_
 simp only [go_sem, seval, bys, cmdX, Zr]
 apply hK4
 refine Za zs [1, 2, 6] fun K Y => ?_
 simp only [go_sem, seval, r2, hE]
 repeat (first | refine peel ?_ | refine ⟨by exact ⟨by omega, .inr trivial, by omega, by omega⟩, ?_⟩)
 apply Y; clear Y K
 have e1 : (n = n2) = False := by simp; omega
 refine Za zs [1, 2] fun K Y => ?_
 simp only [go_sem, seval, r1, bys, cmdX, Zr, e1, hw4, Int.toNat_natCast, Option.getD_some, Option.getD_none, List.length_cons, List.length_nil]
 repeat (first | refine peel ?_ | refine ⟨by exact ⟨by omega, by omega, fun m h => h.elim⟩, ?_⟩)
 apply Y; clear Y K
 refine Yh (fun H' n' => ∃ vo io ks, H' n = some (.arr 0 17 [cmdX c c.q.whr (.osl (n + 2) 72 0 rl) (.osl (n + 3) vc 0 ic) (.osl n2 vo 0 io) (bys c.q.frm) (bys c.q.to) (Zr c.q.fams) (bys c.q.pre) (bys c.q.token)]) ∧ H' (n + 1) = some (.arr 0 17 [cmdZ]) ∧ Pile (n + 2) [.osl (n + 2) 72 0 rl, .osl (n + 3) vc 0 ic, .osl n2 vo 0 io] [bys (c.row.take 5000), .sl 4 (((c.conds.take 20).map QG).map Zu), .sl 6 (((c.ops.take 20).map opT).map opAV)] ks H' n' ∧ (∀ k, k < n → H' k = H k) ∧ n2 + 1 ≤ n') ⟨v6 + 1, j, _, MG _ _ _, by simp only [MF]; (repeat rw [if_neg (by omega)]); exact hres, by
   exact hp1.addList hp2 (by rw [ME _ _ (by omega)]; exact MG _ _ _) hel.symm (fun k h1 h2 h3 => by simp only [MF]; repeat rw [if_neg (by omega)]) (by omega) (by omega), fun k hk => by simp only [MF]; (repeat rw [if_neg (by omega)]); exact qlow2 k hk, by omega⟩ fun H3 n3 ⟨vo, io, ks3, r1, hres, hp3, qlow3, qnn3⟩ => ?_
 clear qlow2 qnn2 r2 hb hw4 hj hj2 hp1 hp2 hE hci hel
 have e1 : (n = n3) = False := by simp; omega
 have e2 : (n = n3 + 1) = False := by simp; omega
 have e3 : (n = n3 + 2) = False := by simp; omega
 have e6 : (n = n3 + 1 + 1) = False := by simp; omega
 have e7 : (n = n3 + 1 + 1 + 1) = False := by simp; omega
 have e8 : (n = n3 + 3) = False := by simp; omega
 refine Za zs [1, 2] fun K Y => ?_
 simp only [go_sem, seval, r1, bys, cmdX, Zr]
 refine Zg func25 rfl rfl rfl ((YV c.q.frm 5000 (by decide) (by decide) _ _)) ?_
 simp only [go_sem, seval, r1, bys, cmdX, Zr, hmk, e1]
 apply Y; clear Y K
 refine Za zs [1, 2] fun K Y => ?_
 simp only [go_sem, seval]
 refine Zg func25 rfl rfl rfl ((YV c.q.to 5000 (by decide) (by decide) _ _)) ?_
 simp only [go_sem, seval, hmk, e2]
 apply Y; clear Y K
 refine Za zs [1, 2] fun K Y => ?_
 simp only [go_sem, seval]
 refine Zg func25 rfl rfl rfl ((YV c.q.pre 5000 (by decide) (by decide) _ _)) ?_
 simp only [go_sem, seval, hmk, e3]
 apply Y; clear Y K
 refine Za zs [1, 2] fun K Y => ?_
 simp only [go_sem, seval]
 refine Zg func25 rfl rfl rfl ((YV c.q.token 5000 (by decide) (by decide) _ _)) ?_
 simp only [go_sem, seval, hmk, e7]
 apply Y; clear Y K
 refine Yh (fun H' n' => ∃ k1 k2 k3 k4 l1 l2 l3 l4 ks, H' n = some (.arr 0 17 [cmdX c c.q.whr (.osl (n + 2) 72 0 rl) (.osl (n + 3) vc 0 ic) (.osl n2 vo 0 io) (.osl k1 72 0 l1) (.osl k2 72 0 l2) (Zr c.q.fams) (.osl k3 72 0 l3) (.osl k4 72 0 l4)]) ∧ H' (n + 1) = some (.arr 0 17 [cmdZ]) ∧ Pile (n + 2) [.osl (n + 2) 72 0 rl, .osl (n + 3) vc 0 ic, .osl n2 vo 0 io, .osl k1 72 0 l1, .osl k2 72 0 l2, .osl k3 72 0 l3, .osl k4 72 0 l4] [bys (c.row.take 5000), .sl 4 (((c.conds.take 20).map QG).map Zu), .sl 6 (((c.ops.take 20).map opT).map opAV), bys (c.q.frm.take 5000), bys (c.q.to.take 5000), bys (c.q.pre.take 5000), bys (c.q.token.take 5000)] ks H' n' ∧ (∀ k, k < n → H' k = H k) ∧ n2 + 1 ≤ n') ⟨_, _, _, _, _, _, _, _, _, MG _ _ _, by simp only [MF]; (repeat rw [if_neg (by omega)]); exact hres, by
   exact (((((hp3.on (fun k h1 h2 => by simp only [MF]; repeat rw [if_neg (by omega)]) (Nat.le_refl _)).add1 (Ww (x := marks) (by simp only [MF]; (repeat rw [if_neg (by omega)]); simp)) (by omega)).add1 (Ww (x := marks) (by simp only [MF]; (repeat rw [if_neg (by omega)]); simp)) (by omega)).add1 (Ww (x := marks) (by simp only [MF]; (repeat rw [if_neg (by omega)]); simp)) (by omega)).add1 (Ww (x := marks) (by simp only [MF]; (repeat rw [if_neg (by omega)]); simp)) (by omega)), fun k hk => by simp only [MF]; (repeat rw [if_neg (by omega)]); exact qlow3 k hk, by omega⟩ fun H4 n4 ⟨k1, k2, k3, k4, l1, l2, l3, l4, ks4, r1, hres, hp4, qlow4, qnn4⟩ => ?_
 refine Yi [1, 2] (fun T' H' n' => T' = tl [(1, .loc n 0 0 0 []), (2, .loc (n + 1) 0 0 0 [])] ∧ H' n = some (.arr 0 17 [cmdX c (c.q.whr.take 5000) (.osl (n + 2) 72 0 rl) (.osl (n + 3) vc 0 ic) (.osl n2 vo 0 io) (.osl k1 72 0 l1) (.osl k2 72 0 l2) (Zr c.q.fams) (.osl k3 72 0 l3) (.osl k4 72 0 l4)]) ∧ H' (n + 1) = some (.arr 0 17 [cmdZ]) ∧ Pile (n + 2) [.osl (n + 2) 72 0 rl, .osl (n + 3) vc 0 ic, .osl n2 vo 0 io, .osl k1 72 0 l1, .osl k2 72 0 l2, .osl k3 72 0 l3, .osl k4 72 0 l4] [bys (c.row.take 5000), .sl 4 (((c.conds.take 20).map QG).map Zu), .sl 6 (((c.ops.take 20).map opT).map opAV), bys (c.q.frm.take 5000), bys (c.q.to.take 5000), bys (c.q.pre.take 5000), bys (c.q.token.take 5000)] ks4 H' n' ∧ (∀ k, k < n → H' k = H k) ∧ n2 + 1 ≤ n') ?_ ?_
 ·refine Za zs [1, 2, 125] fun K Y => ?_
  simp only [go_sem, seval, r1, bys, cmdX, Zr]
  apply Y; clear Y K
  refine Ze ?_ ?_ <;> intro hb
  ·have hgt : 5000 < c.q.whr.length := by have := of_decide_eq_true hb; omega
   refine Zl zs [1, 2] fun K Y => ?_
   simp only [go_sem, seval, r1, bys, cmdX, Zr, hmk, Option.getD_some, Option.getD_none]
   repeat refine peel ?_
   apply Y; clear Y K
   simp only [go_sem, seval, bys, cmdX, Zr]
   exact ⟨hres, hp4.on (fun k h1 h2 => ME _ _ (by omega)) (Nat.le_refl _), fun k hk => by rw [if_neg (by omega)]; exact qlow4 k hk, qnn4⟩
  refine Zd ?_
  simp only [go_sem, seval, r1, bys, cmdX, Zr]
  (rw [List.take_of_length_le (l := c.q.whr) (i := 5000) (by have := of_decide_eq_false hb; omega)]; exact ⟨rfl, hres, hp4, qlow4, qnn4⟩)
 rintro T5 H5 n5 ⟨rfl, hc5, hres, hp5, qlow5, qnn5⟩
 refine Za zs [1, 2, 9] fun K Y => ?_
 simp only [go_sem, seval]
 apply Y; clear Y K
 refine Zb fun K7 hK7 => ?_
 refine Za zs [1, 2, 9, 10] fun K Y => ?_
 simp only [go_sem, seval]
 apply Y; clear Y K
 refine Zj ?_
 refine Yb 9 1 rfl ?_
 refine YR [1, 2, 9, 10] ?_
 simp only [go_sem, seval]
 refine Zz (fun T' H' n' => ∃ (j v6 : Nat), j ≤ c.q.fams.length ∧ j ≤ 20 ∧ T' = tl [(1, .loc n 0 0 0 []), (2, .loc (n + 1) 0 0 0 []), (9, .osl n5 v6 0 j), (10, .int .i64 j)] ∧ H' n = some (.arr 0 17 [cmdX c (c.q.whr.take 5000) (.osl (n + 2) 72 0 rl) (.osl (n + 3) vc 0 ic) (.osl n2 vo 0 io) (.osl k1 72 0 l1) (.osl k2 72 0 l2) (Zr c.q.fams) (.osl k3 72 0 l3) (.osl k4 72 0 l4)]) ∧ H' n5 = some (.arr v6 1 ((c.q.fams.take j).map fun x => .int .i64 x)) ∧ H' (n + 1) = some (.arr 0 17 [cmdZ]) ∧ Pile (n + 2) [.osl (n + 2) 72 0 rl, .osl (n + 3) vc 0 ic, .osl n2 vo 0 io, .osl k1 72 0 l1, .osl k2 72 0 l2, .osl k3 72 0 l3, .osl k4 72 0 l4] [bys (c.row.take 5000), .sl 4 (((c.conds.take 20).map QG).map Zu), .sl 6 (((c.ops.take 20).map opT).map opAV), bys (c.q.frm.take 5000), bys (c.q.to.take 5000), bys (c.q.pre.take 5000), bys (c.q.token.take 5000)] ks4 H' n5 ∧ (∀ k, k < n → H' k = H k) ∧ n5 + 1 ≤ n') (fun T' _ _ => c.q.fams.length - iv (T' 10)) ?_ ?_
 ·exact ⟨0, 0, by omega, by omega, rfl, by rw [ME _ _ (by omega)]; exact hc5, by rw [MG]; rfl, by rw [ME _ _ (by omega)]; exact hres, hp5.on (fun k h1 h2 => ME _ _ (by omega)) (Nat.le_refl _), fun k hk => by rw [ME _ _ (by omega)]; exact qlow5 k hk, by omega⟩
 intro T1 H1 n1
 rintro ⟨j, v6, hj, hj2, rfl, r1, r2, hres, hp6, qlow6, qnn6⟩
 refine Zb fun K8 hK8 => ?_
 refine Za zs [1, 2, 9, 10, 141] fun K Y => ?_
 simp only [go_sem, seval, r1, bys, List.length_map, cmdX, Zr]
 repeat refine peel ?_
 apply Y; clear Y K
 refine Ze ?_ ?_ <;> intro hb
 ·have hlt : j < c.q.fams.length ∧ j < 20 := by simp at hb; omega
  have hn1 : nth (c.q.fams.map fun x : Int => (.int .i64 x : AV)) j = .int .i64 (c.q.fams.getD j default) := ZF (fun x : Int => (.int .i64 x : AV)) c.q.fams j hlt.1
  have htk := Qr c.q.fams hlt.1
  generalize c.q.fams.getD j default = x at *
  have e3 : (n = n5) = False := by simp; omega
  refine Zd ?_
  simp only [go_sem, seval, bys, cmdX, Zr]
  apply hK8
  clear hK8 K8
  refine Zb fun K9 hK9 => ?_
  refine Zj ?_
  refine Zl zs [1, 2, 9, 10] fun K Y => ?_
  simp only [go_sem, seval, r1, r2, bys, List.length_map, cmdX, Zr, Int.toNat_natCast, hn1]
  repeat (first | refine peel ?_ | (refine And.intro ?_ ?_; · first | exact ⟨rfl, by simp [AV.sz, AV.szs, AV.memOK]⟩ | exact ⟨by simp; try omega, .inr trivial, by omega, by omega⟩))
  apply Y; clear Y K
  simp only [go_sem, seval, bys, cmdX, Zr]
  apply hK9
  clear hK9 K9
  refine Zl zs [1, 2, 9, 10] fun K Y => ?_
  simp only [go_sem, seval, bys, cmdX, Zr]
  apply Y; clear Y K
  simp only [go_sem, seval, r1, bys, cmdX, Zr]
  refine ⟨⟨j + 1, v6 + 1, by omega, by omega, by rw [w1 (by omega)], ?_, ?_, ?_, ?_, fun k hk => ?_, by omega⟩, by rw [w1 (by omega)]; simp; omega⟩
  ·simp [e3, cmdX, Zr]
  ·rw [htk, List.map_append, List.take_of_length_le (by simp; omega)]; rfl
  ·(repeat rw [if_neg (by omega)]); exact hres
  ·exact hp6.on (fun k h1 h2 => by simp only [MF]; repeat rw [if_neg (by omega)]) (Nat.le_refl _)
  ·(repeat rw [if_neg (by omega)])
   exact qlow6 k hk
 have hw5 : IntKind.i64.wrap (((j + 5 : Nat) : Int) - 5) = j := by rw [w64 (by omega) (by omega)]; omega
 have hci : c.q.fams.take j = c.q.fams.take 20 := by
   rcases Nat.lt_or_ge j c.q.fams.length with h | h
   ·have : j = 20 := by simp [h] at hb; omega
    rw [this]
   ·rw [List.take_of_length_le h, List.take_of_length_le (by omega)]
 have hEl : ((c.q.fams.take 20).map fun x : Int => (.int .i64 x : AV)).length = j := by rw [← hci]; simp; omega
 have hE : List.take j (List.map (fun x : Int => (.int .i64 x : AV)) (List.take j c.q.fams)) = (c.q.fams.take 20).map fun x : Int => (.int .i64 x : AV) := by rw [hci, List.take_of_length_le (by rw [hEl]; exact Nat.le_refl _)]
 refine ZA ?_
 simp only [go_sem, seval, bys, cmdX, Zr]
 apply hK7
 refine Za zs [1, 2, 9] fun K Y => ?_
 simp only [go_sem, seval, r2, List.length_map, hE]
 repeat (first | refine peel ?_ | refine ⟨by exact ⟨by simp; try omega, .inr trivial, by omega, by omega⟩, ?_⟩)
 apply Y; clear Y K
 have e3 : (n = n5) = False := by simp; omega
 refine Za zs [1, 2] fun K Y => ?_
 simp only [go_sem, seval, r1, cmdX, Zr, e3, hw5, Int.toNat_natCast, Option.getD_some, Option.getD_none, List.length_cons, List.length_nil]
 repeat (first | refine peel ?_ | refine ⟨by exact ⟨by omega, by omega, fun m h => h.elim⟩, ?_⟩)
 apply Y; clear Y K
 have e4 : (n + 1 = n5) = False := by simp; omega
 refine Za zs [2] fun K Y => ?_
 simp only [go_sem, seval, hres, cmdZ, e4]
 apply Y; clear Y K
 refine Zf ?_
 simp only [go_sem, seval]
 refine ⟨_, _, _, _, _, _, _, _, _, _, _, _, _, _, _, _, _, _, _, _, _, _, _, _, _, rfl, hp6.addList (kl := n5) (els := (c.q.fams.take 20).map fun x => .int .i64 x) (ks2 := []) ⟨M8 _ (fun x hx => by obtain ⟨y, _, rfl⟩ := List.mem_map.1 hx; trivial), List.nodup_nil, fun k h => by simp at h⟩ (by rw [ME _ _ (by omega), ME _ _ (by omega)]; exact MG _ _ _) hEl.symm (fun k h1 h2 h3 => by rw [ME _ _ (by omega), ME _ _ (by omega), ME _ _ (by omega)]) (by omega) (by omega), fun k hk => by rw [ME _ _ (by omega), ME _ _ (by omega), ME _ _ (by omega)]; exact qlow6 k hk, by omega⟩
theorem KJ (c : CmdE) (H : Heap) (n : Nat) : Zx prog 14 [Zh c] H n (OAns H n (Zh (cmdT c))) := (KE c H n).mono fun _ _ _ h => h.oans
theorem KR (c : CmdE) (H : Heap) (n : Nat) : Ret prog 14 [Zh c] H n (Zh (cmdT c)) H n := OAns.fin (KJ c H n)
end Go.Proofs.YtifnhpmeoogedaaGreatDoor
namespace Go.Rt
open Go Go.Sx
def Rds {α : Type} (rd : List UInt8 → Nat → Option (α × Nat)) (e : List UInt8) (x : α) : Prop :=
 ∀ b p v, p ≤ b.length → b.drop p = e ++ v → rd b p = some (x, p + e.length)
theorem dadv {b : List UInt8} {p : Nat} {e v : List UInt8} (hp : p ≤ b.length) (h : b.drop p = e ++ v) : p + e.length ≤ b.length ∧ b.drop (p + e.length) = v := by
 have h1 := congrArg List.length h
 rw [List.length_drop, List.length_append] at h1
 refine ⟨by omega, ?_⟩
 have h2 := congrArg (List.drop e.length) h
 rw [List.drop_drop, List.drop_left] at h2
 exact h2
theorem dget {b : List UInt8} {p : Nat} {c : UInt8} {v : List UInt8} (h : b.drop p = c :: v) : b.getD p 0 = c := by
 have h2 : (b.drop p)[0]? = some c := by rw [h]; rfl
 rw [List.getElem?_drop, Nat.add_zero] at h2
 simp [List.getD, h2]
theorem Jg (c : UInt8) : Rds Xy [c] (c.toNat : Int) := fun b p v hp h => by
 have h1 := (dadv hp h).1
 simp only [List.length_cons, List.length_nil] at h1
 rw [Xy, if_neg (by omega), dget (show b.drop p = c :: v from h)]; rfl
theorem ruL_B : ∀ (f : Nat) (b : List UInt8) (p v a : Nat) (w : List UInt8), f ≤ 10 → 0 < f → p + (10 - f) ≤ b.length → b.drop (p + (10 - f)) = Zm v ++ w → v * 2 ^ (7 * (10 - f)) < 18446744073709551616 → (0 < 10 - f → 0 < v) →
   ruL b p f a = (a + v * 2 ^ (7 * (10 - f)), p + (10 - f) + (Zm v).length, 0)
 | 0, _, _, _, _, _, _, h, _, _, _, _ => absurd h (Nat.lt_irrefl 0)
 | f + 1, b, p, v, a, w, hf, _, hp, hd, hm, hz => by
   have e1 : 10 - (f + 1) = 9 - f := by omega
   rw [e1] at hp hd hm hz ⊢
   obtain ⟨l1, d1⟩ := dadv hp hd
   have hpos := Qq v
   unfold ruL
   rw [if_neg (by omega)]
   by_cases hv : v < 128
   ·have hu := WX hv
    rw [hu] at hd ⊢
    have ht : (UInt8.ofNat v).toNat = v := by simp; omega
    rw [dget hd, ht, if_neg, if_pos hv, if_neg (by rintro ⟨g1, g2⟩; have := hz g2; omega), Nat.mod_eq_of_lt hv]
    ·rfl
    ·rintro ⟨h9, h1⟩
     rw [h9] at hm
     simp at hm; omega
   ·have hu := UM (by omega : 128 ≤ v)
    rw [hu] at hd ⊢
    have ht : (UInt8.ofNat (v % 128 + 128)).toNat = v % 128 + 128 := by simp; omega
    obtain ⟨l2, d2⟩ := dadv (e := [UInt8.ofNat (v % 128 + 128)]) (v := Zm (v / 128) ++ w) hp hd
    simp only [List.length_cons, List.length_nil] at l2 d2
    have hf0 : 0 < f := by
      rcases Nat.eq_zero_or_pos f with h | h
      ·subst h; simp at hm; omega
      ·exact h
    have e2 : p + (9 - f) + 1 = p + (10 - f) := by omega
    have e3 : 2 ^ (7 * (10 - f)) = 2 ^ (7 * (9 - f)) * 128 := by rw [show 7 * (10 - f) = 7 * (9 - f) + 7 by omega, Nat.pow_add]
    have e4 : v / 128 * 2 ^ (7 * (10 - f)) = 128 * (v / 128) * 2 ^ (7 * (9 - f)) := by rw [e3, Nat.mul_comm _ 128, ← Nat.mul_assoc, Nat.mul_comm (v / 128) 128]
    rw [dget hd, ht, if_neg, if_neg (by omega), ruL_B f b p (v / 128) _ w (by omega) hf0 (by omega) (by rw [← e2]; exact d2) ?_ (by omega)]
    ·rw [e4, show (v % 128 + 128) % 128 = v % 128 by omega, Nat.add_assoc, ← Nat.add_mul, Nat.add_comm (v % 128), Nat.div_add_mod]
     simp only [List.length_cons]
     exact Prod.ext rfl (Prod.ext (by show p + (10 - f) + _ = p + (9 - f) + (_ + 1); omega) rfl)
    ·rw [e4]
     exact Nat.lt_of_le_of_lt (Nat.mul_le_mul_right _ (Nat.mul_div_le v 128)) hm
    ·rintro ⟨h9, h1⟩; rw [h9] at hm; simp at hm; omega
theorem ruB_B {b : List UInt8} {p v : Nat} {w : List UInt8} (hv : v < 18446744073709551616) (hp : p ≤ b.length) (hd : b.drop p = Zm v ++ w) : ruB b p = (v, p + (Zm v).length, 0) := by
 unfold ruB
 rw [if_neg (by omega), ruL_B 10 b p v 0 w (by omega) (by omega) (by simpa using hp) (by simpa using hd) (by simpa using hv) (by omega)]
 simp
theorem rds_nat {v : Nat} (hv : v < 9223372036854775808) : Rds YC (Zm v) (v : Int) := fun b p w hp hd => by
 rw [YC, ruB_B (by omega) hp hd, if_neg (by simp), if_neg (by simp; omega)]
theorem Wt {n : Int} (h0 : 0 ≤ n) (hn : n < 9223372036854775808) : Rds YC (Zm (u64 n)) n := by
 have e : u64 n = n.toNat := by unfold u64; omega
 have h := rds_nat (v := n.toNat) (by omega)
 rw [e]; rwa [Int.toNat_of_nonneg h0] at h
theorem YO {l : List UInt8} (hl : l.length < 9223372036854775808) : Rds YH (Zp l) l := fun b p w hp hd => by
 unfold Zp at hd ⊢
 rw [List.append_assoc] at hd
 obtain ⟨l1, d1⟩ := dadv hp hd
 obtain ⟨l2, d2⟩ := dadv l1 d1
 have hr : rbB b p b.length = (l, p + (Zm l.length).length + l.length, 0) := by
   unfold rbB
   rw [if_neg (by omega), ruB_B (by omega) hp hd]
   simp only [ne_eq, not_true_eq_false, ↓reduceIte]
   rw [if_neg (by omega), if_neg (by omega), d1, List.take_left]
 rw [YH, hr, if_neg (by simp), List.length_append, Nat.add_assoc]
theorem KA (n : Int) : ((ZW n).toNat : Int) = n % 256 := by
 unfold ZW
 simp; omega
theorem Vt {n : Int} (h0 : 0 ≤ n) (hn : n < 256) : Rds Xy [ZW n] n := by
 have h := Jg (ZW n)
 rwa [KA, Int.emod_eq_of_lt h0 hn] at h
theorem eightB_be {n : Int} (h0 : -9223372036854775808 ≤ n) (hn : n < 9223372036854775808) : IntKind.i64.wrap (be8 (XO n) : Int) = n := by
 have h : (be8 (XO n) : Int) = n % 18446744073709551616 := by
   simp only [XO, be8, List.map_cons, List.map_nil, List.foldl_cons, List.foldl_nil, Nat.zero_mul, Nat.zero_add, Int.natCast_add, Int.natCast_mul, KA]
   omega
 rw [h]
 by_cases hs : 0 ≤ n
 ·rw [Int.emod_eq_of_lt hs (by omega), w64 (by omega) (by omega)]
 ·have e : n % 18446744073709551616 = n + 18446744073709551616 := by omega
  rw [e, IntKind.wrap_i64]
  omega
theorem rds_delta {n : Int} (h0 : -9223372036854775808 ≤ n) (hn : n < 9223372036854775808) : Rds Vm (XO n) n := fun b p v hp hd => by
 obtain ⟨l1, d1⟩ := dadv hp hd
 have hl : (XO n).length = 8 := rfl
 rw [Vm, if_neg (by omega), hd, ← hl, List.take_left, eightB_be h0 hn]
theorem rdMany_B {α : Type} {rd : List UInt8 → Nat → Option (α × Nat)} {enc : α → List UInt8} : ∀ (l : List α) (b : List UInt8) (p : Nat) (v : List UInt8) (acc : List α), (∀ x ∈ l, Rds rd (enc x) x) → p ≤ b.length → b.drop p = l.flatMap enc ++ v →
   Xh rd b l.length p acc = some (acc ++ l, p + (l.flatMap enc).length)
 | [], b, p, v, acc, _, _, _ => by simp [Xh]
 | x :: l, b, p, v, acc, h, hp, hd => by
   rw [List.flatMap_cons, List.append_assoc] at hd
   have h1 := h x (by simp) b p _ hp hd
   obtain ⟨l1, d1⟩ := dadv hp hd
   simp only [List.length_cons, Xh, h1, Option.bind_some]
   rw [rdMany_B l b _ v _ (fun y hy => h y (by simp [hy])) l1 d1, List.flatMap_cons, List.length_append]
   simp [Nat.add_assoc]
theorem flat_len {α : Type} {enc : α → List UInt8} (henc : ∀ x, 1 ≤ (enc x).length) : ∀ l : List α, l.length ≤ (l.flatMap enc).length
 | [] => by simp
 | x :: l => by
   have h1 := henc x
   have h2 := flat_len henc l
   rw [List.flatMap_cons, List.length_append, List.length_cons]
   omega
theorem UW {α : Type} {rd : List UInt8 → Nat → Option (α × Nat)} {enc : α → List UInt8} {l : List α} (h : ∀ x ∈ l, Rds rd (enc x) x) (henc : ∀ x, 1 ≤ (enc x).length) (hl : l.length < 9223372036854775808) : Rds (Ym rd) (Zm l.length ++ l.flatMap enc) l := fun b p v hp hd => by
 rw [List.append_assoc] at hd
 have h1 := rds_nat hl b p _ hp hd
 obtain ⟨l1, d1⟩ := dadv hp hd
 obtain ⟨l2, d2⟩ := dadv l1 d1
 have hf := flat_len henc l
 have hc : Vn b p = some (l.length, p + (Zm l.length).length) := by
   rw [Vn, h1, Option.bind_some, if_neg (by simp only [Int.toNat_natCast]; omega), Int.toNat_natCast]
 rw [Ym, hc, Option.bind_some, rdMany_B l b _ v [] h l1 d1, List.nil_append, List.length_append, Nat.add_assoc]
theorem rds_cond {x : YF} (hk : 0 ≤ x.kind ∧ x.kind < 256) (hf : 0 ≤ x.fam ∧ x.fam < 256) (hq : x.qual.length < 9223372036854775808) (hv : x.value.length < 9223372036854775808) : Rds YS (YB x) x := fun b p v hp hd => by
 simp only [YB, List.cons_append, List.append_assoc] at hd
 have h1 := Vt hk.1 hk.2 b p _ hp hd
 obtain ⟨l1, d1⟩ := dadv (e := [ZW x.kind]) hp hd
 have h2 := Vt hf.1 hf.2 b _ _ l1 d1
 obtain ⟨l2, d2⟩ := dadv (e := [ZW x.fam]) l1 d1
 have h3 := YO hq b _ _ l2 d2
 obtain ⟨l3, d3⟩ := dadv l2 d2
 have h4 := YO hv b _ _ l3 d3
 simp only [YS, h1, h2, h3, h4, Option.bind_some]
 refine congrArg some (Prod.ext rfl ?_)
 simp only [YB, List.length_cons, List.length_nil, List.length_append]; omega
theorem rds_op {x : OpE} (hk : 0 ≤ x.kind ∧ x.kind < 256) (hf : 0 ≤ x.fam ∧ x.fam < 256) (hq : x.qual.length < 9223372036854775808) (ht : 0 ≤ x.ts ∧ x.ts < 9223372036854775808) (hv : x.value.length < 9223372036854775808) (hdl : -9223372036854775808 ≤ x.delta ∧ x.delta < 9223372036854775808) : Rds rdOp (opB x) x := fun b p v hp hd => by
 simp only [opB, List.cons_append, List.append_assoc] at hd
 have h1 := Vt hk.1 hk.2 b p _ hp hd
 obtain ⟨l1, d1⟩ := dadv (e := [ZW x.kind]) hp hd
 have h2 := Vt hf.1 hf.2 b _ _ l1 d1
 obtain ⟨l2, d2⟩ := dadv (e := [ZW x.fam]) l1 d1
 have h3 := YO hq b _ _ l2 d2
 obtain ⟨l3, d3⟩ := dadv l2 d2
 have h4 := Wt ht.1 ht.2 b _ _ l3 d3
 obtain ⟨l4, d4⟩ := dadv l3 d3
 have h5 := YO hv b _ _ l4 d4
 obtain ⟨l5, d5⟩ := dadv l4 d4
 have h6 := rds_delta hdl.1 hdl.2 b _ _ l5 d5
 simp only [rdOp, h1, h2, h3, h4, h5, h6, Option.bind_some]
 refine congrArg some (Prod.ext rfl ?_)
 simp only [opB, List.length_cons, List.length_nil, List.length_append]; omega
structure QryE.nums (q : QryE) : Prop where
 fams : ∀ f ∈ q.fams, 0 ≤ f ∧ f < 9223372036854775808
 time : 0 ≤ q.time ∧ q.time < 9223372036854775808
 n : 0 ≤ q.n ∧ q.n < 9223372036854775808
 rows : 0 ≤ q.rows ∧ q.rows < 9223372036854775808
theorem rds_qry {q : QryE} (hn : q.nums) (h1 : q.frm.length ≤ 1048576) (h2 : q.to.length ≤ 1048576) (h3 : q.fams.length ≤ 1048576) (h4 : q.pre.length ≤ 1048576) (h5 : q.whr.length ≤ 1048576) (h6 : q.token.length ≤ 1048576) : Rds Wu (qryB q) q := fun b p v hp hd => by
 simp only [qryB, List.append_assoc] at hd
 have r1 := YO (by omega : q.frm.length < 9223372036854775808) b p _ hp hd
 obtain ⟨l1, d1⟩ := dadv hp hd
 have r2 := YO (by omega : q.to.length < 9223372036854775808) b _ _ l1 d1
 obtain ⟨l2, d2⟩ := dadv l1 d1
 rw [← List.append_assoc] at d2
 have r3 := UW (rd := YC) (enc := fun f => Zm (u64 f)) (fun f hf => Wt (hn.fams f hf).1 (hn.fams f hf).2) (fun f => Qq _) (by omega : q.fams.length < 9223372036854775808) b _ _ l2 d2
 obtain ⟨l3, d3⟩ := dadv l2 d2
 have r4 := YO (by omega : q.pre.length < 9223372036854775808) b _ _ l3 d3
 obtain ⟨l4, d4⟩ := dadv l3 d3
 have r5 := Wt hn.time.1 hn.time.2 b _ _ l4 d4
 obtain ⟨l5, d5⟩ := dadv l4 d4
 have r6 := Wt hn.n.1 hn.n.2 b _ _ l5 d5
 obtain ⟨l6, d6⟩ := dadv l5 d5
 have r7 := Wt hn.rows.1 hn.rows.2 b _ _ l6 d6
 obtain ⟨l7, d7⟩ := dadv l6 d6
 have r8 := Jg (if q.rev then 1 else 0) b _ _ l7 d7
 obtain ⟨l8, d8⟩ := dadv (e := [if q.rev then 1 else 0]) l7 d7
 have r9 := YO (by omega : q.whr.length < 9223372036854775808) b _ _ l8 d8
 obtain ⟨l9, d9⟩ := dadv l8 d8
 have r10 := YO (by omega : q.token.length < 9223372036854775808) b _ _ l9 d9
 simp only [Wu, r1, r2, r3, r4, r5, r6, r7, r8, r9, r10, Option.bind_some]
 refine congrArg some (Prod.ext ?_ ?_)
 ·show QryE.mk _ _ _ _ _ _ _ _ _ _ = q
  have e : (((if q.rev then (1 : UInt8) else 0).toNat : Int) == 1) = q.rev := by cases q.rev <;> rfl
  rw [e]
 ·simp only [qryB, Wx, List.length_append, List.length_cons, List.length_nil]
  omega
theorem Lf {s : List Fml} (h : Z8 s = 0) : s.length ≤ 8 := by
 unfold Z8 at h
 split at h
 ·cases h
 ·rename_i hb
  simp [bout] at hb
  omega
theorem Uz {qc : Int} {s : List Fml} {c : CmdE} (h : ZB qc s c = 0) :
   Z8 s = 0 ∧ bout c.kind 1 7 = false ∧ cb3 c = false ∧ cb4 c = false ∧ cb5 c = false ∧ cb6 s.length c = false ∧ cb7 c = false ∧ cb8 s.length c = false ∧ cb9 c = false ∧ (Yd c.kind = true → qc = 0) ∧ (Yd c.kind = false → c.q = zq) ∧ (cmdB c).length ≤ 98304 := by
 have t : WY c = 0 → (cmdB c).length ≤ 98304 := fun hx => by
   unfold WY at hx
   split at hx
   ·cases hx
   ·rename_i h; simp at h; omega
 unfold ZB at h
 split at h
 ·exact absurd h (by decide)
 rename_i h0
 split at h
 ·exact absurd h (by decide)
 rename_i h1
 split at h
 ·exact absurd h (by decide)
 rename_i h2
 split at h
 ·exact absurd h (by decide)
 rename_i h3
 split at h
 ·exact absurd h (by decide)
 rename_i h4
 split at h
 ·exact absurd h (by decide)
 rename_i h5
 split at h
 ·exact absurd h (by decide)
 rename_i h6
 split at h
 ·exact absurd h (by decide)
 rename_i h7
 split at h
 ·exact absurd h (by decide)
 rename_i h8
 refine ⟨by simpa using h0, by simpa using h1, by simpa using h2, by simpa using h3, by simpa using h4, by simpa using h5, by simpa using h6, by simpa using h7, by simpa using h8, ?_⟩
 split at h
 ·rename_i hk
  split at h
  ·rename_i hq; simp [h] at hq
  ·rename_i hq
   exact ⟨fun _ => by simpa using hq, fun e => (by rw [hk] at e; cases e), t h⟩
 ·rename_i hk
  split at h
  ·exact absurd h (by decide)
  ·rename_i hq
   exact ⟨fun e => absurd e hk, fun _ => by simpa using hq, t h⟩
theorem condOK_rds {nf : Nat} (hn : nf ≤ 8) {x : YF} (h : XB nf x = true) : Rds YS (YB x) x := by
 unfold XB at h
 simp [bout] at h
 exact rds_cond (by omega) (by omega) (by omega) (by omega)
theorem opOK_rds {nf : Nat} (hn : nf ≤ 8) {x : OpE} (hd : -9223372036854775808 ≤ x.delta ∧ x.delta < 9223372036854775808) (h : opOK nf x = true) : Rds rdOp (opB x) x := by
 unfold opOK at h
 simp [bout] at h
 exact rds_op (by omega) (by omega) (by omega) (by omega) (by omega) hd
theorem condB_pos (x : YF) : 1 ≤ (YB x).length := by simp [YB]
theorem opB_pos (x : OpE) : 1 ≤ (opB x).length := by simp [opB]
theorem rdCmd_B {c : CmdE} {b v : List UInt8} (hb : b = cmdB c ++ v) (hk : 1 ≤ c.kind ∧ c.kind ≤ 7)
   (h2 : 3 ≤ c.kind → (0 ≤ c.client ∧ c.client < 9223372036854775808) ∧ 0 ≤ c.serial ∧ c.serial < 9223372036854775808) (h2' : ¬ 3 ≤ c.kind → c.client = 0 ∧ c.serial = 0)
   (h3 : c.kind = 4 → c.row.length < 9223372036854775808 ∧ (∀ x ∈ c.conds, Rds YS (YB x) x) ∧ (∀ x ∈ c.ops, Rds rdOp (opB x) x) ∧ c.conds.length < 9223372036854775808 ∧ c.ops.length < 9223372036854775808) (h3' : c.kind ≠ 4 → c.row = [] ∧ c.conds = [] ∧ c.ops = [])
   (h4 : c.kind = 5 ∨ c.kind = 6 → 0 ≤ c.n ∧ c.n < 9223372036854775808) (h4' : ¬ (c.kind = 5 ∨ c.kind = 6) → c.n = 0)
   (h5 : c.kind = 7 → Rds Wu (qryB c.q) c.q) (h5' : c.kind ≠ 7 → c.q = zq) :
   Wv b = if (cmdB c).length = b.length then some c else none := by
 obtain ⟨k, cl, se, row, cds, ops, m, q⟩ := c
 simp only at *
 have hd0 : b.drop 0 = [ZW k] ++ ((if 3 ≤ k then Zm (u64 cl) ++ Zm (u64 se) else []) ++ ((if k = 4 then Zp row ++ Zm cds.length ++ cds.flatMap YB ++ Zm ops.length ++ ops.flatMap opB
    else if k = 5 ∨ k = 6 then Zm (u64 m) else if k = 7 then qryB q else []) ++ v)) := by
   rw [List.drop_zero, hb]
   simp only [cmdB, List.cons_append, List.append_assoc, List.nil_append]
 have r1 := Vt (n := k) (by omega) (by omega) b 0 _ (Nat.zero_le _) hd0
 obtain ⟨l1, d1⟩ := dadv (Nat.zero_le _) hd0
 have s1 : rs1 b 0 = some ({ zc with kind := k }, 0 + [ZW k].length) := by
   have hbo : bout k 1 7 = false := by simp [bout]; omega
   rw [rs1, r1, Option.bind_some]
   simp only [hbo, Bool.false_eq_true, ↓reduceIte]
 have s2 : rs2 b { zc with kind := k } (0 + [ZW k].length) = some ({ zc with kind := k, client := cl, serial := se }, 0 + [ZW k].length + (if 3 ≤ k then Zm (u64 cl) ++ Zm (u64 se) else []).length) := by
   by_cases h : 3 ≤ k
   ·have hkk : (ZQ k || YQ k) = true := by simp [ZQ, YQ]; omega
    rw [if_pos h] at d1 ⊢
    rw [List.append_assoc] at d1
    have ra := Wt (h2 h).1.1 (h2 h).1.2 b _ _ l1 d1
    obtain ⟨la, da⟩ := dadv l1 d1
    have rb := Wt (h2 h).2.1 (h2 h).2.2 b _ _ la da
    simp only [rs2, hkk, ↓reduceIte, ra, rb, Option.bind_some]
    simp only [List.length_append, Nat.add_assoc]
   ·have hkk : (ZQ k || YQ k) = false := by simp [ZQ, YQ]; omega
    obtain ⟨rfl, rfl⟩ := h2' h
    rw [if_neg h]
    simp only [rs2, hkk, Bool.false_eq_true, ↓reduceIte, List.length_nil, Nat.add_zero]
    rfl
 obtain ⟨l2, d2⟩ := dadv l1 d1
 have hlen : (cmdB ⟨k, cl, se, row, cds, ops, m, q⟩).length = 0 + [ZW k].length + (if 3 ≤ k then Zm (u64 cl) ++ Zm (u64 se) else []).length + (if k = 4 then Zp row ++ Zm cds.length ++ cds.flatMap YB ++ Zm ops.length ++ ops.flatMap opB
    else if k = 5 ∨ k = 6 then Zm (u64 m) else if k = 7 then qryB q else []).length := by
   simp only [cmdB, List.length_cons, List.length_append, List.length_nil]; omega
 generalize hp2 : 0 + [ZW k].length + (if 3 ≤ k then Zm (u64 cl) ++ Zm (u64 se) else []).length = p2 at *
 have s3 : rs3 b { zc with kind := k, client := cl, serial := se } p2 = some ({ zc with kind := k, client := cl, serial := se, row := row, conds := cds, ops := ops }, p2 + (if k = 4 then Zp row ++ Zm cds.length ++ cds.flatMap YB ++ Zm ops.length ++ ops.flatMap opB else []).length) := by
   by_cases h : k = 4
   ·have hkk : kOps k = true := by simp [kOps, h]
    rw [if_pos h] at d2 ⊢
    obtain ⟨g1, g2, g3, g4, g5⟩ := h3 h
    simp only [List.append_assoc] at d2
    have ra := YO g1 b _ _ l2 d2
    obtain ⟨la, da⟩ := dadv l2 d2
    rw [← List.append_assoc] at da
    have rb := UW g2 condB_pos g4 b _ _ la da
    obtain ⟨lb, db⟩ := dadv la da
    rw [← List.append_assoc] at db
    have rc := UW g3 opB_pos g5 b _ _ lb db
    simp only [rs3, hkk, ↓reduceIte, ra, rb, rc, Option.bind_some]
    simp only [List.length_append, Nat.add_assoc]
   ·have hkk : kOps k = false := by simp [kOps, h]
    obtain ⟨rfl, rfl, rfl⟩ := h3' h
    rw [if_neg h]
    simp only [rs3, hkk, Bool.false_eq_true, ↓reduceIte, List.length_nil, Nat.add_zero]
    rfl
 have s4 : rs4 b { zc with kind := k, client := cl, serial := se, row := row, conds := cds, ops := ops } (p2 + (if k = 4 then Zp row ++ Zm cds.length ++ cds.flatMap YB ++ Zm ops.length ++ ops.flatMap opB else []).length) = some ({ zc with kind := k, client := cl, serial := se, row := row, conds := cds, ops := ops, n := m }, p2 + (if k = 4 then Zp row ++ Zm cds.length ++ cds.flatMap YB ++ Zm ops.length ++ ops.flatMap opB else if k = 5 ∨ k = 6 then Zm (u64 m) else []).length) := by
   by_cases h : k = 5 ∨ k = 6
   ·have hkk : 0 ≤ Yn k := by rcases h with rfl | rfl <;> decide
    have h0 : ¬ k = 4 := by omega
    rw [if_neg h0, if_pos h] at d2
    rw [if_neg h0, if_neg h0, if_pos h]
    have ra := Wt (h4 h).1 (h4 h).2 b _ _ l2 d2
    simp only [rs4, hkk, ↓reduceIte, List.length_nil, Nat.add_zero, ra, Option.bind_some]
   ·have hkk : ¬ 0 ≤ Yn k := by
      unfold Yn
      rw [if_neg (by omega), if_neg (by omega), if_neg (by omega)]; decide
    obtain rfl := h4' h
    rw [if_neg h]
    simp only [rs4, hkk, ↓reduceIte]
    rfl
 have s5 : rs5 b { zc with kind := k, client := cl, serial := se, row := row, conds := cds, ops := ops, n := m } (p2 + (if k = 4 then Zp row ++ Zm cds.length ++ cds.flatMap YB ++ Zm ops.length ++ ops.flatMap opB else if k = 5 ∨ k = 6 then Zm (u64 m) else []).length) = some (⟨k, cl, se, row, cds, ops, m, q⟩, p2 + (if k = 4 then Zp row ++ Zm cds.length ++ cds.flatMap YB ++ Zm ops.length ++ ops.flatMap opB
    else if k = 5 ∨ k = 6 then Zm (u64 m) else if k = 7 then qryB q else []).length) := by
   by_cases h : k = 7
   ·have hkk : Yd k = true := by simp [Yd, h]
    have h0 : ¬ k = 4 := by omega
    have h1 : ¬ (k = 5 ∨ k = 6) := by omega
    rw [if_neg h0, if_neg h1, if_pos h] at d2
    rw [if_neg h0, if_neg h1, if_neg h0, if_neg h1, if_pos h]
    have ra := h5 h b _ _ l2 d2
    simp only [rs5, hkk, ↓reduceIte, List.length_nil, Nat.add_zero, ra, Option.bind_some]
   ·have hkk : Yd k = false := by simp [Yd, h]
    obtain rfl := h5' h
    rw [if_neg h]
    simp only [rs5, hkk, Bool.false_eq_true, ↓reduceIte]
    rfl
 rw [hlen]
 simp only [Wv, s1, s2, s3, s4, s5, Option.bind_some]
structure Vq (qc : Int) (s : List Fml) (c : CmdE) : Prop where
 ok : ZB qc s c = 0
 fits : c.fits
 delta : ∀ o ∈ c.ops, -9223372036854775808 ≤ o.delta ∧ o.delta < 9223372036854775808
 nums : Yd c.kind = true → qc = 0 → c.q.nums
theorem Vq.rd {qc : Int} {s : List Fml} {c : CmdE} (h : Vq qc s c) (v : List UInt8) : Wv (cmdB c ++ v) = if (cmdB c).length = (cmdB c ++ v).length then some c else none := by
 obtain ⟨p0, p1, p3, p4, p5, p6, p7, p8, p9, p10, p11, _⟩ := Uz h.ok
 have hs := Lf p0
 simp only [bout, Bool.or_eq_false_iff, decide_eq_false_iff_not] at p1
 have hf := h.fits
 refine rdCmd_B rfl (by omega) (fun h3 => ?_) (fun h3 => ?_) (fun h4 => ?_) (fun h4 => ?_) (fun h5 => ?_) (fun h5 => ?_) (fun h7 => ?_) (fun h7 => ?_)
 ·have e : (ZQ c.kind || YQ c.kind) = true := by simp [ZQ, YQ]; omega
  have e2 : (0 : Int) ≤ (if ZQ c.kind then 1 else 0) := by split <;> decide
  simp [cb3, e, bout] at p3
  simp [cb4, bout] at p4
  omega
 ·have e : YQ c.kind = false := by simp [YQ]; omega
  have e2 : ZQ c.kind = false := by simp [ZQ]; omega
  simp only [cb3, e, e2, bout, Bool.or_self, Bool.false_eq_true, ↓reduceIte, Bool.or_eq_false_iff, decide_eq_false_iff_not] at p3
  have h1 : c.client = 0 := by omega
  simp [cb4, bout, h1] at p4
  exact ⟨h1, by simpa using p4.2⟩
 ·have e : kOps c.kind = true := by simp [kOps, h4]
  simp [cb6, e] at p6
  simp [cb8] at p8
  exact ⟨by have := hf.row; omega, fun x hx => condOK_rds hs (p6.2 x hx), fun x hx => opOK_rds hs (h.delta x hx) (p8 x hx), by have := hf.conds; omega, by have := hf.ops; omega⟩
 ·have e : kOps c.kind = false := by simp [kOps, h4]
  simp [cb5, e] at p5
  simp [cb6, e] at p6
  simp [cb7, e] at p7
  exact ⟨p5, p6.1.1, p7⟩
 ·simp only [cb9] at p9
  rcases h5 with e | e <;> (simp [e, Yn, bout] at p9; omega)
 ·have e : Yn c.kind < 0 := by
    unfold Yn
    rw [if_neg (by omega), if_neg (by omega), if_neg (by omega)]; decide
  simp [cb9, e] at p9
  exact p9.1
 ·have e : Yd c.kind = true := by simp [Yd, h7]
  exact rds_qry (h.nums e (p10 e)) hf.frm hf.to hf.fams hf.pre hf.whr hf.token
 ·exact p11 (by simp [Yd, h7])
theorem Vq.pre {qc qc' : Int} {s : List Fml} {c c' : CmdE} (h : Vq qc s c) (h' : Vq qc' s c') {v : List UInt8} (e : cmdB c = cmdB c' ++ v) : c = c' := by
 have h1 := h.rd []
 have h2 := h'.rd v
 rw [List.append_nil, if_pos rfl, e] at h1
 rw [h1] at h2
 split at h2
 ·exact Option.some.inj h2
 ·cases h2
theorem rds_cel {x : CelE} (hf : 0 ≤ x.fam ∧ x.fam < 256) (hq : x.qual.length < 9223372036854775808) (ht : 0 ≤ x.ts ∧ x.ts < 9223372036854775808) (hv : x.value.length < 9223372036854775808) : Rds Xw (celB x) x := fun b p v hp hd => by
 simp only [celB, List.cons_append, List.append_assoc] at hd
 have h1 := Vt hf.1 hf.2 b p _ hp hd
 obtain ⟨l1, d1⟩ := dadv (e := [ZW x.fam]) hp hd
 have h2 := YO hq b _ _ l1 d1
 obtain ⟨l2, d2⟩ := dadv l1 d1
 have h3 := Wt ht.1 ht.2 b _ _ l2 d2
 obtain ⟨l3, d3⟩ := dadv l2 d2
 have h4 := YO hv b _ _ l3 d3
 simp only [Xw, h1, h2, h3, h4, Option.bind_some]
 refine congrArg some (Prod.ext rfl ?_)
 simp only [celB, List.length_cons, List.length_nil, List.length_append]; omega
theorem celB_pos (x : CelE) : 1 ≤ (celB x).length := by simp [celB]
theorem rowB_pos (x : RowE) : 1 ≤ (rowB x).length := by
 have := Qq x.cells.length
 simp only [rowB, List.length_append]; omega
theorem rds_row {x : RowE} (hr : x.row.length < 9223372036854775808) (hc : ∀ y ∈ x.cells, Rds Xw (celB y) y) (hl : x.cells.length < 9223372036854775808) : Rds X6 (rowB x) x := fun b p v hp hd => by
 simp only [rowB, List.append_assoc] at hd
 have h1 := YO hr b p _ hp hd
 obtain ⟨l1, d1⟩ := dadv hp hd
 rw [← List.append_assoc] at d1
 have h2 := UW hc celB_pos hl b _ _ l1 d1
 simp only [X6, h1, h2, Option.bind_some, rowB, List.length_append, Nat.add_assoc]
structure WW (r : RepE) : Prop where
 ok : YU r = true
 value : r.value < 9223372036854775808
 cells : ∀ x ∈ r.rows, x.cells.length < 9223372036854775808
 token : r.token.length < 9223372036854775808
theorem shownB_rds {x : CelE} (h : VA x = true) : Rds Xw (celB x) x := by
 unfold VA at h
 simp [bout] at h
 exact rds_cel (by omega) (by omega) (by omega) (by omega)
theorem WW.rd {r : RepE} (h : WW r) (v : List UInt8) : UI (repB r ++ v) = if (repB r).length = (repB r ++ v).length then some r else none := by
 have hs := h.ok
 unfold YU Jr at hs
 simp [bout] at hs
 obtain ⟨⟨⟨he, hval⟩, hrows⟩, hro⟩ := hs
 have hrow : ∀ x ∈ r.rows, Rds X6 (rowB x) x := fun x hx => by
   have h1 := hro x hx
   unfold QE at h1
   simp [bout] at h1
   exact rds_row (by omega) (fun y hy => shownB_rds (h1.2 y hy)) (h.cells x hx)
 obtain ⟨b, hb⟩ : ∃ b, b = repB r ++ v := ⟨_, rfl⟩
 rw [← hb]
 have hd : b.drop 0 = repB r ++ v := hb
 simp only [repB, List.append_assoc] at hd
 have e1 := Wt (n := r.err) (by omega) (by omega) b 0 _ (Nat.zero_le _) hd
 obtain ⟨l1, d1⟩ := dadv (Nat.zero_le _) hd
 have e2 := Jg (if r.held then 1 else 0) b _ _ l1 d1
 obtain ⟨l2, d2⟩ := dadv (e := [if r.held then 1 else 0]) l1 d1
 have e3 := Wt (n := r.value) (by omega) h.value b _ _ l2 d2
 obtain ⟨l3, d3⟩ := dadv l2 d2
 rw [← List.append_assoc] at d3
 have e4 := UW hrow rowB_pos (by omega) b _ _ l3 d3
 obtain ⟨l4, d4⟩ := dadv l3 d3
 have e5 := YO h.token b _ _ l4 d4
 obtain ⟨l5, d5⟩ := dadv l4 d4
 have e6 := Jg (if r.done then 1 else 0) b _ _ l5 d5
 have f1 : (((if r.held then (1 : UInt8) else 0).toNat : Int) == 1) = r.held := by cases r.held <;> rfl
 have f2 : (((if r.done then (1 : UInt8) else 0).toNat : Int) == 1) = r.done := by cases r.done <;> rfl
 simp only [UI, rp1, rp2, rp3, e1, e2, e3, e4, e5, e6, Option.bind_some, f1, f2]
 have hl : (repB r).length = 0 + (Zm (u64 r.err)).length + [if r.held then (1 : UInt8) else 0].length + (Zm (u64 r.value)).length + (Zm r.rows.length ++ r.rows.flatMap rowB).length + (Zp r.token).length + [if r.done then (1 : UInt8) else 0].length := by
   simp only [repB, Wx, List.length_append, List.length_cons, List.length_nil]; omega
 rw [hl]
theorem WW.pre {r r' : RepE} (h : WW r) (h' : WW r') {v : List UInt8} (e : repB r = repB r' ++ v) : r = r' := by
 have h1 := h.rd []
 have h2 := h'.rd v
 rw [List.append_nil, if_pos rfl, e] at h1
 rw [h1] at h2
 split at h2
 ·exact Option.some.inj h2
 ·cases h2
end Go.Rt