/- Own layer: a value of one's own and what it says, with all keys that it stands on. Of every program. -/
import Derived.Test.YtifnhpmeoogedaaGreatDoorPK
import Derived.Test.YtifnhpmeoogedaaGreatDoorPI
set_option linter.unusedSimpArgs false
set_option linter.unusedVariables false
namespace Go.Sx
open Go
def AV.nk : AV → Prop
  | .int _ _ => True
  | .bool _ => True
  | .str _ => True
  | .nilp => True
  | .nilsl => True
  | .nilf => True
  | .nilm => True
  | .nili => True
  | _ => False
theorem AV.nk.kl {a : AV} (h : a.nk) (n : Nat) : a.kl n := by cases a <;> first | trivial | exact h.elim
theorem AV.nk.fr {a : AV} (h : a.nk) (n : Nat) : a.fr n := by cases a <;> first | trivial | exact h.elim
mutual
inductive Own (H : Heap) : AV → AV → List Nat → Prop
  | nk {a : AV} : a.nk → Own H a a []
  | nilsl {e : Nat} : Own H .nilsl (.sl e []) []
  | osl {k ver len e : Nat} {els ys : List AV} {ks : List Nat} : H k = some (.arr ver e els) → len ≤ els.length → OwnL H (els.take len) ys ks → Own H (.osl k ver 0 len) (.sl e ys) (k :: ks)
  | agg {fs gs : List AV} {ks : List Nat} : OwnL H fs gs ks → Own H (.agg fs) (.agg gs) ks
  | tup {fs gs : List AV} {ks : List Nat} : OwnL H fs gs ks → Own H (.tup fs) (.tup gs) ks
inductive OwnL (H : Heap) : List AV → List AV → List Nat → Prop
  | nil : OwnL H [] [] []
  | cons {a b : AV} {l m : List AV} {ks js : List Nat} : Own H a b ks → OwnL H l m js → OwnL H (a :: l) (b :: m) (ks ++ js)
end
mutual
theorem Own.frz {H : Heap} {n : Nat} : ∀ {a b : AV} {ks : List Nat}, Own H a b ks → (∀ k ∈ ks, n ≤ k) → Frz H n a b
  | _, _, _, .nk h, _ => .kl (h.kl n)
  | _, _, _, .nilsl, _ => .nilsl
  | _, _, _, .osl h1 h2 h3, hk => .osl h1 (hk _ (by simp)) (by omega) (by rw [List.drop_zero]; exact OwnL.frz h3 fun k h => hk k (by simp [h]))
  | _, _, _, .agg h, hk => .agg (OwnL.frz h hk)
  | _, _, _, .tup h, hk => .tup (OwnL.frz h hk)
theorem OwnL.frz {H : Heap} {n : Nat} : ∀ {a b : List AV} {ks : List Nat}, OwnL H a b ks → (∀ k ∈ ks, n ≤ k) → FrzL H n a b
  | _, _, _, .nil, _ => .nil
  | _, _, _, .cons h1 h2, hk => .cons (Own.frz h1 fun k h => hk k (by simp [h])) (OwnL.frz h2 fun k h => hk k (by simp [h]))
end
mutual
theorem Own.frame {H H' : Heap} : ∀ {a b : AV} {ks : List Nat}, Own H a b ks → (∀ k ∈ ks, H' k = H k) → Own H' a b ks
  | _, _, _, .nk h, _ => .nk h
  | _, _, _, .nilsl, _ => .nilsl
  | _, _, _, .osl h1 h2 h3, hk => .osl ((hk _ (by simp)).trans h1) h2 (OwnL.frame h3 fun k h => hk k (by simp [h]))
  | _, _, _, .agg h, hk => .agg (OwnL.frame h hk)
  | _, _, _, .tup h, hk => .tup (OwnL.frame h hk)
theorem OwnL.frame {H H' : Heap} : ∀ {a b : List AV} {ks : List Nat}, OwnL H a b ks → (∀ k ∈ ks, H' k = H k) → OwnL H' a b ks
  | _, _, _, .nil, _ => .nil
  | _, _, _, .cons h1 h2, hk => .cons (Own.frame h1 fun k h => hk k (by simp [h])) (OwnL.frame h2 fun k h => hk k (by simp [h]))
end
mutual
theorem Own.fr {H : Heap} {n : Nat} : ∀ {a b : AV} {ks : List Nat}, Own H a b ks → (∀ k ∈ ks, n ≤ k) → a.fr n
  | _, _, _, .nk h, _ => h.fr n
  | _, _, _, .nilsl, _ => trivial
  | _, _, _, .osl _ _ _, hk => hk _ (by simp)
  | _, _, _, .agg h, hk => OwnL.fr h hk
  | _, _, _, .tup h, hk => OwnL.fr h hk
theorem OwnL.fr {H : Heap} {n : Nat} : ∀ {a b : List AV} {ks : List Nat}, OwnL H a b ks → (∀ k ∈ ks, n ≤ k) → AV.frs n a
  | _, _, _, .nil, _ => trivial
  | _, _, _, .cons h1 h2, hk => ⟨Own.fr h1 fun k h => hk k (by simp [h]), OwnL.fr h2 fun k h => hk k (by simp [h])⟩
end
mutual
theorem Own.sz {H : Heap} : ∀ {a b : AV} {ks : List Nat}, Own H a b ks → a.sz = b.sz
  | _, _, _, .nk _ => rfl
  | _, _, _, .nilsl => rfl
  | _, _, _, .osl _ _ _ => rfl
  | _, _, _, .agg h => by simp only [AV.sz]; exact OwnL.szs h
  | _, _, _, .tup _ => rfl
theorem OwnL.szs {H : Heap} : ∀ {a b : List AV} {ks : List Nat}, OwnL H a b ks → AV.szs a = AV.szs b
  | _, _, _, .nil => rfl
  | _, _, _, .cons h1 h2 => by simp only [AV.szs]; rw [Own.sz h1, OwnL.szs h2]
end
theorem OwnL.len {H : Heap} : ∀ {a b : List AV} {ks : List Nat}, OwnL H a b ks → a.length = b.length
  | _, _, _, .nil => rfl
  | _, _, _, .cons _ h => by simp [h.len]
theorem OwnL.append {H : Heap} : ∀ {a b : List AV} {ks : List Nat}, OwnL H a b ks → ∀ {c d : List AV} {js : List Nat}, OwnL H c d js → OwnL H (a ++ c) (b ++ d) (ks ++ js)
  | _, _, _, .nil, _, _, _, h => h
  | _, _, _, .cons h1 h2, _, _, _, h => by rw [List.append_assoc]; exact .cons h1 (OwnL.append h2 h)
theorem OwnL.one {H : Heap} {a b : AV} {ks : List Nat} (h : Own H a b ks) : OwnL H [a] [b] ks := by
  have := OwnL.cons h (.nil (H := H)); simpa using this
theorem OwnL.snoc {H : Heap} {l m : List AV} {a b : AV} {ks js : List Nat} (h : OwnL H l m ks) (h' : Own H a b js) : OwnL H (l ++ [a]) (m ++ [b]) (ks ++ js) := h.append (.one h')
theorem OwnL.nks {H : Heap} : ∀ (l : List AV), (∀ x ∈ l, x.nk) → OwnL H l l []
  | [], _ => .nil
  | a :: l, h => .cons (.nk (h a (by simp))) (OwnL.nks l fun x hx => h x (by simp [hx]))
theorem OwnL.nth {H : Heap} : ∀ {a b : List AV} {ks : List Nat}, OwnL H a b ks → ∀ {i : Nat}, i < a.length → ∃ ks1 ks2 ks3, ks = ks1 ++ (ks2 ++ ks3) ∧ OwnL H (a.take i) (b.take i) ks1 ∧ Own H (nth a i) (nth b i) ks2 ∧ OwnL H (a.drop (i + 1)) (b.drop (i + 1)) ks3
  | _, _, _, .nil, i, hi => by simp at hi
  | _, _, _, .cons (ks := ks) (js := js) h1 h2, 0, _ => ⟨[], ks, js, rfl, .nil, h1, h2⟩
  | _, _, _, .cons (a := a) (b := b) (l := l) (m := m) (ks := ks) (js := js) h1 h2, i + 1, hi => by
    obtain ⟨k1, k2, k3, e, q1, q2, q3⟩ := OwnL.nth h2 (i := i) (by simpa using hi)
    exact ⟨ks ++ k1, k2, k3, by rw [e, List.append_assoc], .cons h1 q1, q2, q3⟩
mutual
theorem Own.objs {H : Heap} {n : Nat} : ∀ {a b : AV} {ks : List Nat}, Own H a b ks → (∀ k ∈ ks, n ≤ k) → ∀ k ∈ ks, ∃ v e els len, H k = some (.arr v e els) ∧ len ≤ els.length ∧ AV.frs n (els.take len)
  | _, _, _, .nk h, _, k, hk => by simp at hk
  | _, _, _, .nilsl, _, k, hk => by simp at hk
  | _, _, _, .osl (len := len) h1 h2 h3, hn, k, hk => by
    rcases List.mem_cons.1 hk with rfl | hk
    · exact ⟨_, _, _, len, h1, h2, OwnL.fr h3 fun k h => hn k (by simp [h])⟩
    · exact OwnL.objs h3 (fun k h => hn k (by simp [h])) k hk
  | _, _, _, .agg h, hn, k, hk => OwnL.objs h hn k hk
  | _, _, _, .tup h, hn, k, hk => OwnL.objs h hn k hk
theorem OwnL.objs {H : Heap} {n : Nat} : ∀ {a b : List AV} {ks : List Nat}, OwnL H a b ks → (∀ k ∈ ks, n ≤ k) → ∀ k ∈ ks, ∃ v e els len, H k = some (.arr v e els) ∧ len ≤ els.length ∧ AV.frs n (els.take len)
  | _, _, _, .nil, _, k, hk => by simp at hk
  | _, _, _, .cons h1 h2, hn, k, hk => by
    rcases List.mem_append.1 hk with h | h
    · exact Own.objs h1 (fun k h => hn k (by simp [h])) k h
    · exact OwnL.objs h2 (fun k h => hn k (by simp [h])) k h
end
structure Mine (H : Heap) (n : Nat) (b : AV) (a : AV) (ks : List Nat) (H' : Heap) (n' : Nat) : Prop where
  own : Own H' a b ks
  nd : ks.Nodup
  lo : ∀ k ∈ ks, n ≤ k ∧ k < n'
  low : ∀ k, k < n → H' k = H k
  nn : n ≤ n'
end Go.Sx
namespace Go.Rt
open Go Go.Sx
structure Pile (n0 : Nat) (az bs : List AV) (ks : List Nat) (H : Heap) (n : Nat) : Prop where
  own : OwnL H az bs ks
  nd : ks.Nodup
  lo : ∀ k ∈ ks, n0 ≤ k ∧ k < n
theorem Pile.nil (n0 : Nat) (H : Heap) (n : Nat) : Pile n0 [] [] [] H n := ⟨.nil, List.nodup_nil, fun k h => by simp at h⟩
theorem Pile.on {n0 n n2 : Nat} {az bs : List AV} {ks : List Nat} {H H2 : Heap} (h : Pile n0 az bs ks H n) (hH : ∀ k, n0 ≤ k → k < n → H2 k = H k) (hn : n ≤ n2) : Pile n0 az bs ks H2 n2 :=
  ⟨h.own.frame fun k hk => hH k (h.lo k hk).1 (h.lo k hk).2, h.nd, fun k hk => ⟨(h.lo k hk).1, Nat.lt_of_lt_of_le (h.lo k hk).2 hn⟩⟩
theorem Pile.add {n0 n n2 : Nat} {az bs : List AV} {ks : List Nat} {H H2 : Heap} {a b : AV} {js : List Nat} (h : Pile n0 az bs ks H n) (hH : ∀ k, n0 ≤ k → k < n → H2 k = H k) (ho : Own H2 a b js) (hnd : js.Nodup) (hlo : ∀ k ∈ js, n ≤ k ∧ k < n2) (h0 : n0 ≤ n) (hn : n ≤ n2) : Pile n0 (az ++ [a]) (bs ++ [b]) (ks ++ js) H2 n2 where
  own := (h.own.frame fun k hk => hH k (h.lo k hk).1 (h.lo k hk).2).snoc ho
  nd := List.nodup_append.2 ⟨h.nd, hnd, fun a ha b hb e => by have := (h.lo a ha).2; have := (hlo b hb).1; omega⟩
  lo := fun k hk => by
    rcases List.mem_append.1 hk with h1 | h1
    · have := h.lo k h1; omega
    · have := hlo k h1; omega
theorem Pile.list {kl n ver e len : Nat} {els ys : List AV} {ks : List Nat} {H : Heap} (h : Pile (kl + 1) (els.take len) ys ks H n) (hk : H kl = some (.arr ver e els)) (hl : len ≤ els.length) (hn : kl < n) : Own H (.osl kl ver 0 len) (.sl e ys) (kl :: ks) ∧ (kl :: ks).Nodup ∧ ∀ k ∈ kl :: ks, kl ≤ k ∧ k < n :=
  ⟨.osl hk hl h.own, List.nodup_cons.2 ⟨fun hm => by have := (h.lo _ hm).1; omega, h.nd⟩, fun k hk => by
    rcases List.mem_cons.1 hk with rfl | hk
    · exact ⟨Nat.le_refl _, hn⟩
    · have := h.lo k hk; omega⟩
def marks : List UInt8 := [201, 202, 203] ++ List.replicate 70 206
theorem nks_bytes (l : List UInt8) : ∀ x ∈ l.map byteAV, x.nk := fun x hx => by
  obtain ⟨b, _, rfl⟩ := List.mem_map.1 hx; trivial
theorem own_bytes {H : Heap} {k ver len : Nat} {l : List UInt8} (h : H k = some (.arr ver 1 (l.map byteAV))) (hl : len ≤ l.length) : Own H (.osl k ver 0 len) (bys (l.take len)) [k] :=
  .osl h (by simpa using hl) (by rw [← List.map_take]; exact OwnL.nks _ (nks_bytes _))
end Go.Rt
namespace Go.Proofs.YtifnhpmeoogedaaGreatDoor
open Go Go.Sx Go.Rt Go.Proofs
end Go.Proofs.YtifnhpmeoogedaaGreatDoor
namespace Go.Rt
open Go Go.Sx
end Go.Rt
namespace Go.Rt
open Go Go.Sx
end Go.Rt
namespace Go.Rt
open Go Go.Sx
end Go.Rt
namespace Go.Proofs.YtifnhpmeoogedaaGreatDoor
open Go Go.Sx Go.Rt Go.Proofs
end Go.Proofs.YtifnhpmeoogedaaGreatDoor
namespace Go.Rt
open Go Go.Sx
end Go.Rt
namespace Go.Rt
open Go Go.Sx
end Go.Rt
namespace Go.Rt
open Go Go.Sx
end Go.Rt
namespace Go.Rt
open Go Go.Sx
def zs4 : List UInt8 := List.replicate 4096 0
def cdL : CondE := ⟨3, 0, [], zs4⟩
def opL (size : Nat) : OpE := ⟨1, 0, [], 0, List.replicate size 0, 0⟩
def cL (n size : Nat) : CmdE := { zc with kind := 4, row := [114], conds := List.replicate 8 cdL, ops := List.replicate n (opL size) }
def ceL : CelE := ⟨0, [], 1, zs4⟩
def rL (cells : Nat) : RepE := { zr with rows := [⟨[114], List.replicate cells ceL⟩] }
theorem zs4_len : zs4.length = 4096 := by simp [zs4, -List.reduceReplicate]
theorem uintB_l1 {v : Nat} (h : v < 128) : (uintB v).length = 1 := by rw [uintB_lt h]; rfl
theorem uintB_l2 {v : Nat} (h : 128 ≤ v) (h2 : v < 16384) : (uintB v).length = 2 := by rw [uintB_ge h, List.length_cons, uintB_l1 (by omega)]
theorem flat_len {α : Type} (f : α → List UInt8) (x : α) : ∀ n, ((List.replicate n x).flatMap f).length = n * (f x).length
  | 0 => by simp
  | n + 1 => by rw [List.replicate_succ, List.flatMap_cons, List.length_append, flat_len f x n, Nat.add_mul]; omega
theorem cond_len : (condB cdL).length = 4101 := by
  simp only [condB, cdL, bytesB, List.length_cons, List.length_append, List.length_nil, zs4_len, uintB_l1 (v := 0) (by omega), uintB_l2 (v := 4096) (by omega) (by omega)]
theorem cel_len : (celB ceL).length = 4101 := by
  have : u64 1 = 1 := rfl
  simp only [celB, ceL, bytesB, this, List.length_cons, List.length_append, List.length_nil, zs4_len, uintB_l1 (v := 0) (by omega), uintB_l1 (v := 1) (by omega), uintB_l2 (v := 4096) (by omega) (by omega)]
def eachL (size : Nat) : Nat := size + 13 + (if 128 ≤ size then 1 else 0)
theorem op_len {size : Nat} (h : size ≤ 4096) : (opB (opL size)).length = eachL size := by
  have h0 : u64 0 = 0 := rfl
  have h8 : (eightB 0).length = 8 := rfl
  simp only [opB, opL, bytesB, h0, h8, List.length_cons, List.length_append, List.length_nil, List.length_replicate, uintB_l1 (v := 0) (by omega), eachL]
  by_cases hs : 128 ≤ size
  · rw [uintB_l2 hs (by omega), if_pos hs]; omega
  · rw [uintB_l1 (by omega), if_neg hs]; omega
def roomL (n size : Nat) : Nat := 32815 + n * eachL size
theorem cL_len {n size : Nat} (hn : n ≤ 16) (h : size ≤ 4096) : (cmdB (cL n size)).length = roomL n size := by
  have h0 : u64 0 = 0 := rfl
  have e : cmdB (cL n size) = byteI 4 :: ((uintB 0 ++ uintB 0) ++ (bytesB [114] ++ uintB (List.replicate 8 cdL).length ++ (List.replicate 8 cdL).flatMap condB ++ uintB (List.replicate n (opL size)).length ++ (List.replicate n (opL size)).flatMap opB)) := rfl
  rw [e]
  simp only [List.length_cons, List.length_append, flat_len, List.length_replicate, cond_len, op_len h, bytesB, List.length_nil, uintB_l1 (v := 0) (by omega), uintB_l1 (v := 0 + 1) (by omega), uintB_l1 (v := 8) (by omega), uintB_l1 (v := n) (by omega), roomL]
  omega
theorem cL_fits {n size : Nat} (hn : n ≤ 16) (h : size ≤ 4096) : (cL n size).fits := by
  let z := zc_fits
  refine ⟨by simp [cL], by simp [cL], fun x hx => ?_, by simp [cL]; omega, fun x hx => ?_, z.6, z.7, z.8, z.9, z.10, z.11⟩
  · obtain rfl := List.eq_of_mem_replicate hx
    exact ⟨by simp [cdL], by rw [show cdL.value = zs4 from rfl, zs4_len]; omega⟩
  · obtain rfl := List.eq_of_mem_replicate hx
    exact ⟨by simp [opL], by simp [opL]; omega⟩
theorem cL_check {n size : Nat} (h1 : 1 ≤ n) (hn : n ≤ 16) (h : size ≤ 4096) (qc : Int) : checkC qc [⟨[102], 1, 0⟩] (cL n size) = if roomL n size ≤ 98304 then 0 else 2 := by
  have hk : (cL n size).kind = 4 := rfl
  have hq : kQuery (cL n size).kind = false := rfl
  have hco : condOK 1 cdL = true := by
    have hz : cdL.value.length = 4096 := zs4_len
    unfold condOK
    rw [hz]
    decide
  have hop : opOK 1 (opL size) = true := by
    have hz : (opL size).value.length = size := by simp [opL]
    have : decide (4096 < (size : Int)) = false := by simp; omega
    unfold opOK
    rw [hz, this]
    simp [opL, bout]
  have c6 : cb6 1 (cL n size) = false := by
    have : (cL n size).conds.all (condOK 1) = true := List.all_eq_true.2 fun x hx => by obtain rfl := List.eq_of_mem_replicate hx; exact hco
    unfold cb6; rw [this]; rfl
  have c8 : cb8 1 (cL n size) = false := by
    have : (cL n size).ops.all (opOK 1) = true := List.all_eq_true.2 fun x hx => by obtain rfl := List.eq_of_mem_replicate hx; exact hop
    unfold cb8; rw [this]; rfl
  have c7 : cb7 (cL n size) = false := by
    have hl : (cL n size).ops.length = n := by simp [cL]
    unfold cb7
    rw [hk, hl]
    have : bout (n : Int) 1 16 = false := by simp [bout]; omega
    rw [this]; rfl
  have c3 : cb3 (cL n size) = false := rfl
  have c4 : cb4 (cL n size) = false := rfl
  have c5 : cb5 (cL n size) = false := rfl
  have c9 : cb9 (cL n size) = false := rfl
  have cz : decide ((cL n size).q = zq) = true := rfl
  have ck : bout (cL n size).kind 1 7 = false := rfl
  have cs : schemaE [⟨[102], 1, 0⟩] = 0 := by decide
  unfold checkC
  rw [cs, ck, c3, c4, c5, c7, c9, cz, hq]
  have e1 : ([⟨[102], 1, 0⟩] : List Fml).length = 1 := rfl
  rw [e1, c6, c8]
  simp only [bne_self_eq_false, Bool.false_eq_true, if_false, Bool.not_true, tailC, cL_len hn h]
  by_cases hr : roomL n size ≤ 98304
  · rw [if_pos hr, if_neg (by simp; omega)]
  · rw [if_neg hr, if_pos (by simp; omega)]
theorem rL_len {c : Nat} (hc : c ≤ 300) : (repB (rL c)).length = 8 + (uintB c).length + c * 4101 := by
  have h0 : u64 0 = 0 := rfl
  have e : repB (rL c) = uintB 0 ++ flagB false ++ uintB 0 ++ uintB 1 ++ ((bytesB [114] ++ uintB (List.replicate c ceL).length ++ (List.replicate c ceL).flatMap celB) ++ []) ++ bytesB [] ++ flagB false := rfl
  rw [e]
  simp only [List.length_cons, List.length_append, flat_len, List.length_replicate, cel_len, bytesB, flagB, List.length_nil, uintB_l1 (v := 0) (by omega), uintB_l1 (v := 1) (by omega), uintB_l1 (v := 0 + 1) (by omega)]
  omega
theorem rL_sound (c : Nat) : soundB (rL c) = true := by
  have hs : shownB ceL = true := by
    have hz : ceL.value.length = 4096 := zs4_len
    unfold shownB; rw [hz]; decide
  have hr : rowOK ⟨[114], List.replicate c ceL⟩ = true := by
    have : (List.replicate c ceL).all shownB = true := List.all_eq_true.2 fun x hx => by obtain rfl := List.eq_of_mem_replicate hx; exact hs
    unfold rowOK; rw [this]; rfl
  have : soundB (rL c) = (!headBad (rL c) && ([⟨[114], List.replicate c ceL⟩] : List RowE).all rowOK) := rfl
  rw [this]
  simp [hr]; rfl
theorem rL_enc {c : Nat} (hc : c ≤ 300) : encR (rL c) = if c ≤ 255 then (repB (rL c), 0) else ([], 2) := by
  have hl := rL_len hc
  have hu : 1 ≤ (uintB c).length ∧ (uintB c).length ≤ 2 := by
    by_cases h : c < 128
    · rw [uintB_l1 h]; omega
    · rw [uintB_l2 (by omega) (by omega)]; omega
  unfold encR
  rw [rL_sound, if_neg (by simp), hl]
  by_cases h : c ≤ 255
  · rw [if_pos h, if_neg (by omega)]
  · rw [if_neg h, if_pos (by omega)]
end Go.Rt
namespace Go.Rt
open Go Go.Sx
def bxL (conds ops : AV) : AV := .agg [.int .i64 4, .int .i64 0, .int .i64 0, .sl 1 [.int .u8 114], conds, ops, .int .i64 0, .agg [.nilsl, .nilsl, .nilsl, .nilsl, .int .i64 0, .int .i64 0, .int .i64 0, .bool false, .str [], .nilsl]]
end Go.Rt
namespace Go.Rt
open Go Go.Sx
theorem own_zeros {H : Heap} {k m : Nat} (h : H k = some (.arr 0 1 (List.replicate m (AV.int .u8 0)))) : Own H (.osl k 0 0 m) (bys (List.replicate m 0)) [k] := by
  have e : List.replicate m (AV.int .u8 0) = (List.replicate m (0 : UInt8)).map byteAV := by rw [List.map_replicate]; rfl
  rw [e] at h
  have := own_bytes (len := m) h (by simp)
  rwa [List.take_of_length_le (by simp)] at this
theorem own_cdL {H : Heap} {k : Nat} (h : H k = some (.arr 0 1 (List.replicate 4096 (AV.int .u8 0)))) : Own H (.agg [.int .i64 3, .int .i64 0, .nilsl, .osl k 0 0 4096]) (condAV cdL) [k] :=
  .agg (.cons (ks := []) (.nk trivial) (.cons (ks := []) (.nk trivial) (.cons (ks := []) .nilsl (.cons (ks := [k]) (js := []) (own_zeros h) .nil))))
theorem own_opL {H : Heap} {k m : Nat} (h : H k = some (.arr 0 1 (List.replicate m (AV.int .u8 0)))) : Own H (.agg [.int .i64 1, .int .i64 0, .nilsl, .int .i64 0, .osl k 0 0 m, .int .i64 0]) (opAV (opL m)) [k] :=
  .agg (.cons (ks := []) (.nk trivial) (.cons (ks := []) (.nk trivial) (.cons (ks := []) .nilsl (.cons (ks := []) (.nk trivial) (.cons (ks := [k]) (own_zeros h) (.cons (ks := []) (js := []) (.nk trivial) .nil))))))
theorem own_ceL {H : Heap} {k : Nat} (h : H k = some (.arr 0 1 (List.replicate 4096 (AV.int .u8 0)))) : Own H (.agg [.int .i64 0, .nilsl, .int .i64 1, .osl k 0 0 4096]) (celAV ceL) [k] :=
  .agg (.cons (ks := []) (.nk trivial) (.cons (ks := []) .nilsl (.cons (ks := []) (.nk trivial) (.cons (ks := [k]) (js := []) (own_zeros h) .nil))))
theorem rep_succ {α β : Type} (f : α → β) (x : α) (i : Nat) : (List.replicate (i + 1) x).map f = (List.replicate i x).map f ++ [f x] := by rw [List.replicate_succ', List.map_append]; rfl
theorem Pile.whole {kl n0 n ver e len : Nat} {els ys : List AV} {ks : List Nat} {H : Heap} (h : Pile n0 els ys ks H n) (hk : H kl = some (.arr ver e els)) (hl : els.length = len) : Own H (.osl kl ver 0 len) (.sl e ys) (kl :: ks) :=
  .osl hk (by omega) (by rw [List.take_of_length_le (by omega)]; exact h.own)
end Go.Rt
namespace Go.Rt
open Go Go.Sx
theorem own_zerosV {H : Heap} {k m ver : Nat} (h : H k = some (.arr ver 1 (List.replicate m (AV.int .u8 0)))) : Own H (.osl k ver 0 m) (bys (List.replicate m 0)) [k] := by
  have e : List.replicate m (AV.int .u8 0) = (List.replicate m (0 : UInt8)).map byteAV := by rw [List.map_replicate]; rfl
  rw [e] at h
  have := own_bytes (len := m) h (by simp)
  rwa [List.take_of_length_le (by simp)] at this
end Go.Rt
namespace Go.Sx
open Go
def Heap.dropS (S : Nat → Prop) [DecidablePred S] (H : Heap) : Heap := fun k => if S k then none else H k
open Classical in
noncomputable def Ctx.frzS (c : Ctx) (H : Heap) (S : Nat → Prop) (w : World) : Ctx where
  ρ := c.ρ
  ro := fun b => match c.ro b with
    | some a => some a
    | none => if ∃ k ver e els, S k ∧ H k = some (.arr ver e els) ∧ blockOf c k (.arr ver e els) = some b then
        (match w.heap[b]? with | some (.cells a _ _) => some a | _ => none) else none
theorem Ctx.frzS_le (c : Ctx) (H : Heap) (S : Nat → Prop) (w : World) : c.le (c.frzS H S w) where
  ρ := fun h => h
  ro := fun {b a} h => by simp only [Ctx.frzS, h]
section
variable {S : Nat → Prop} [DecidablePred S]
theorem Step.frzS {c : Ctx} {H : Heap} {n : Nat} {w : World} (hs : Sim c H n w) : Step c H w (c.frzS H S w) (H.dropS S) n w := by
  have hne : ∀ {k' o}, (H.dropS S) k' = some o → ¬ S k' ∧ H k' = some o := fun {k' o} h => by
    unfold Heap.dropS at h
    split at h
    · cases h
    · rename_i e; exact ⟨e, h⟩
  exact {
    le := c.frzS_le H S w
    sim := {
      ro := fun b a hb => by
        simp only [Ctx.frzS] at hb
        split at hb
        · rename_i a' hr; cases hb; exact hs.ro b _ hr
        · split at hb
          · split at hb
            · rename_i _ _ hw; cases hb; exact ⟨_, _, hw⟩
            · simp at hb
          · simp at hb
      own := fun k' o h => (hs.own k' o (hne h).2).mono (c.frzS_le H S w) (fun _ _ => rfl)
      sep := fun k' o b h hb => by
        have hb : blockOf c k' o = some b := hb
        have h4 := hs.sep k' o b (hne h).2 hb
        simp only [Ctx.frzS, h4]
        rw [if_neg]
        rintro ⟨k, ver, e, els, hS, hk', hb'⟩
        have := hs.inj k' k o _ b (hne h).2 hk' hb hb'
        subst this
        exact (hne h).1 hS
      inj := fun k1 k2 o1 o2 b h1 h2 b1 b2 => hs.inj k1 k2 o1 o2 b (hne h1).2 (hne h2).2 b1 b2
      fresh := fun k' hk => ⟨by
        unfold Heap.dropS
        split
        · rfl
        · exact (hs.fresh k' hk).1, (hs.fresh k' hk).2⟩
      vers := fun k' o v h hv => hs.vers k' o v (hne h).2 hv }
    fr := .refl _ _
    new := fun b ⟨k', o, h, hb⟩ => .inl ⟨k', o, (hne h).2, hb⟩ }
end
theorem Ctx.frzS_ro {S : Nat → Prop} {c : Ctx} {H : Heap} {n : Nat} {w : World} (hs : Sim c H n w) {k ver e : Nat} {els : List AV} (hS : S k) (hk : H k = some (.arr ver e els)) {b : Nat} (hbo : blockOf c k (.arr ver e els) = some b) {arr : Array Value} {ty : TypeId} {fr : Nat × Nat} (hb : w.heap[b]? = some (.cells arr ty fr)) : (c.frzS H S w).ro b = some arr := by
  have h := hs.sep k _ b hk hbo
  simp only [Ctx.frzS, h]
  rw [if_pos ⟨k, ver, e, els, hS, hk, hbo⟩, hb]
mutual
inductive FzO (H : Heap) (S : Nat → Prop) : AV → AV → Prop
  | refl (a : AV) : FzO H S a a
  | nilsl {e : Nat} : FzO H S .nilsl (.sl e [])
  | osl {k ver len e : Nat} {els ys : List AV} : H k = some (.arr ver e els) → S k → len ≤ els.length → FzOL H S (els.take len) ys → FzO H S (.osl k ver 0 len) (.sl e ys)
  | agg {fs gs : List AV} : FzOL H S fs gs → FzO H S (.agg fs) (.agg gs)
  | tup {fs gs : List AV} : FzOL H S fs gs → FzO H S (.tup fs) (.tup gs)
inductive FzOL (H : Heap) (S : Nat → Prop) : List AV → List AV → Prop
  | nil : FzOL H S [] []
  | cons {a b : AV} {l m : List AV} : FzO H S a b → FzOL H S l m → FzOL H S (a :: l) (b :: m)
end
mutual
theorem FzO.own {H : Heap} {S : Nat → Prop} : ∀ {a b : AV} {ks : List Nat}, Own H a b ks → (∀ k ∈ ks, S k) → FzO H S a b
  | _, _, _, .nk _, _ => .refl _
  | _, _, _, .nilsl, _ => .nilsl
  | _, _, _, .osl h1 h2 h3, hk => .osl h1 (hk _ (by simp)) h2 (FzOL.own h3 fun k h => hk k (by simp [h]))
  | _, _, _, .agg h, hk => .agg (FzOL.own h hk)
  | _, _, _, .tup h, hk => .tup (FzOL.own h hk)
theorem FzOL.own {H : Heap} {S : Nat → Prop} : ∀ {a b : List AV} {ks : List Nat}, OwnL H a b ks → (∀ k ∈ ks, S k) → FzOL H S a b
  | _, _, _, .nil, _ => .nil
  | _, _, _, .cons h1 h2, hk => .cons (FzO.own h1 fun k h => hk k (by simp [h])) (FzOL.own h2 fun k h => hk k (by simp [h]))
end
section
variable {S : Nat → Prop}
mutual
theorem FzO.sz {H : Heap} {S : Nat → Prop} : ∀ {a b : AV}, FzO H S a b → a.sz = b.sz
  | _, _, .refl _ => rfl
  | _, _, .nilsl => rfl
  | _, _, .osl _ _ _ _ => rfl
  | _, _, .agg h => by simp only [AV.sz]; exact FzOL.szs h
  | _, _, .tup _ => rfl
theorem FzOL.szs {H : Heap} {S : Nat → Prop} : ∀ {a b : List AV}, FzOL H S a b → AV.szs a = AV.szs b
  | _, _, .nil => rfl
  | _, _, .cons h1 h2 => by simp only [AV.szs]; rw [FzO.sz h1, FzOL.szs h2]
end
theorem FzOL.len {H : Heap} {S : Nat → Prop} : ∀ {a b : List AV}, FzOL H S a b → a.length = b.length
  | _, _, .nil => rfl
  | _, _, .cons _ h => by simp [h.len]
theorem FzOL.szAll {H : Heap} {S : Nat → Prop} {e : Nat} : ∀ {a b : List AV}, FzOL H S a b → (∀ x ∈ a, x.sz = e) → ∀ x ∈ b, x.sz = e
  | _, _, .nil, _, x, hx => by simp at hx
  | _, _, .cons h1 h2, h, x, hx => by
    rcases List.mem_cons.1 hx with rfl | hx
    · rw [← h1.sz]; exact h _ (by simp)
    · exact FzOL.szAll h2 (fun y hy => h y (by simp [hy])) x hx
mutual
theorem FzO.rel {c : Ctx} {H : Heap} {n : Nat} {w : World} (hs : Sim c H n w) : ∀ {a b : AV}, FzO H S a b → ∀ {m : Bool} {cs : List Value}, Rel c a m cs → Rel (c.frzS H S w) b m cs
  | _, _, .refl _, _, _, hr => Rel.mono (c.frzS_le H S w) _ _ _ hr
  | _, _, .nilsl, m, cs, hr => by
    simp only [Rel] at hr ⊢
    exact ⟨none, 0, by simpa using hr, by simp, by simp, .inl trivial⟩
  | _, _, .osl (k := k) (ver := ver) (len := len) (e := e) (els := els) (ys := ys) hk hS hl hL, m, cs, hr => by
    have hys := hL.len
    rw [List.length_take, Nat.min_eq_left hl] at hys
    have ho := hs.own k _ hk
    simp only [OwnOK] at ho
    obtain ⟨l, hloc, hm⟩ := ho
    simp only [Rel] at hr ⊢
    obtain ⟨l', hl', hmm⟩ := hr
    rw [hloc] at hl'; cases hl'
    cases l with
    | nil =>
      obtain ⟨_, h2, ev⟩ := hmm
      subst h2
      have : ys = [] := List.length_eq_zero_iff.1 hys.symm
      subst this
      exact ⟨none, 0, by simpa using ev, by simp, by simp, .inl rfl⟩
    | blk b cap e' =>
      obtain ⟨he, hz, hc, arr, ty, ds, hb, hsz, hrf, ha⟩ := hm
      subst he
      obtain ⟨cp, o', h1, h2, h3, ev⟩ := hmm
      have hbo : blockOf c k (.arr ver e' els) = some b := by simp [blockOf, AObj.ver, hloc]
      have hro := Ctx.frzS_ro (S := S) hs hS hk hbo hb
      have e1 : els = els.take len ++ els.drop len := (List.take_append_drop len els).symm
      rw [e1] at hrf
      obtain ⟨d1, d2, ed, hr1, _⟩ := RelF.append.1 hrf
      subst ed
      have hrel := FzOL.relF hs hL hr1
      refine ⟨_, cp, by rw [← hys]; exact ev, by omega, ?_, ?_⟩
      · exact hL.szAll fun x hx => hz x (List.mem_of_mem_take hx)
      · by_cases h0 : len = 0
        · left; exact List.length_eq_zero_iff.1 (by omega)
        · right
          have eo : o' = 0 := by rcases h3 with h3 | h3 <;> omega
          subst eo
          exact ⟨b, 0, arr, d1, rfl, hro, hrel, (At.append.1 ha).1⟩
  | _, _, .agg h, true, _, hr => by simp only [Rel] at hr ⊢; exact FzOL.relF hs h hr
  | _, _, .agg h, false, _, hr => by
    simp only [Rel] at hr ⊢
    obtain ⟨arr, e, hf⟩ := hr
    exact ⟨arr, e, FzOL.relF hs h hf⟩
  | _, _, .tup h, true, cs, hr => by simp [Rel] at hr
  | _, _, .tup h, false, cs, hr => by
    simp only [Rel] at hr ⊢
    obtain ⟨arr, e, hf⟩ := hr
    exact ⟨arr, e, FzOL.relT hs h hf⟩
theorem FzOL.relF {c : Ctx} {H : Heap} {n : Nat} {w : World} (hs : Sim c H n w) : ∀ {a b : List AV}, FzOL H S a b → ∀ {cs : List Value}, RelF c a cs → RelF (c.frzS H S w) b cs
  | _, _, .nil, _, hr => hr
  | _, _, .cons h1 h2, _, hr => by
    simp only [RelF] at hr ⊢
    obtain ⟨c1, c2, e, g1, g2⟩ := hr
    exact ⟨c1, c2, e, FzO.rel hs h1 g1, FzOL.relF hs h2 g2⟩
theorem FzOL.relT {c : Ctx} {H : Heap} {n : Nat} {w : World} (hs : Sim c H n w) : ∀ {a b : List AV}, FzOL H S a b → ∀ {cs : List Value}, RelT c a cs → RelT (c.frzS H S w) b cs
  | _, _, .nil, _, hr => hr
  | _, _, .cons h1 h2, _, hr => by
    simp only [RelT] at hr ⊢
    obtain ⟨v, r, e, g1, g2⟩ := hr
    exact ⟨v, r, e, FzO.rel hs h1 g1, FzOL.relT hs h2 g2⟩
end
theorem awp_ownO {P : Program} {N : Nat} {code : Code} {T : Nat → AV} {H : Heap} {n : Nat} {Q : AEx → (Nat → AV) → Heap → Nat → Prop} (S : Nat → Prop) [DecidablePred S] (j : Nat) {vj ej : Nat} {lj lj' : List AV} (hj : H j = some (.arr vj ej lj)) (hS : ¬ S j) (ha : FzOL H S lj lj')
    (h : awp P N code T ((H.dropS S).put j (some (.arr vj ej lj'))) n Q) : awp P N code T H n Q :=
  awp_ghost (fun c w tmps hs hr => by
    have hst := Step.frzS (S := S) hs
    have hj' : (H.dropS S) j = some (.arr vj ej lj) := by unfold Heap.dropS; rw [if_neg hS]; exact hj
    have hst2 : Step (c.frzS H S w) (H.dropS S) w (c.frzS H S w) ((H.dropS S).put j (some (.arr vj ej lj'))) n w := by
      refine Step.write hst.sim j _ (.arr vj ej lj') hj' rfl (.refl _ _) (fun _ _ _ _ _ _ => rfl) (fun _ _ _ => rfl) ?_
      have ho := hs.own j _ hj
      simp only [OwnOK] at ho ⊢
      obtain ⟨l, hl, hm⟩ := ho
      refine ⟨l, hl, ?_⟩
      cases l with
      | nil => simp only at hm ⊢; subst hm; exact List.length_eq_zero_iff.1 (by simpa using ha.len.symm)
      | blk b cap e' =>
        obtain ⟨he, hz, hc, arr, ty, ds, hb, hs', hr', ha'⟩ := hm
        exact ⟨he, ha.szAll hz, by rw [← ha.len]; exact hc, arr, ty, ds, hb, hs', ha.relF hs hr', ha'⟩
    exact ⟨_, hst.trans hst2, RelTmps.mono (hst.trans hst2).le hr⟩) h
end
end Go.Sx
namespace Go.Proofs.YtifnhpmeoogedaaGreatDoor
open Go Go.Sx Go.Rt Go.Proofs
theorem callQ_mk' {P : Program} {f : FuncId} {fn : Func} {first captured args args' : List AV} {H : Heap} {r : AV}
    (hf : P.funcs[f]? = some fn) (hb : fn.body.isSome = true) (hn : (fn.name == "runtime.NumGoroutine") = false) (ha : first ++ args ++ captured = args') (h : ∀ n, Ret P f args' H n r H n) : CallQ P (.fn (.func f) first captured) args H r :=
  fun n => callK_use hf hb hn ha (h n) ⟨rfl, rfl, rfl⟩
theorem c_order_Decode_long (s : List Fml) (b : List UInt8) (hz : schemaE s = 0) (hl : b.length = 98305) (H : Heap) (n : Nat) : Ret Tryz.prog 26 [schAV s, bys b] H n (.tup [cmdZ, .int .i64 2]) H n := by
  have hszs : (schAV s).sz = 1 := rfl
  have hags : (schAV s).isAgg = true := rfl
  have hmos : (schAV s).memOK = true := rfl
  refine Ret.fin ?_
  refine acalls_of_awp Tryz.func26 rfl Tryz.ntmps26 (congrArg Array.toList Tryz.results26) (by simp) ?_
  simp only [go_sem]
  refine awp_reg zs [1, 2, 4] fun K hK => ?_
  try simp only [go_sem, seval, Nat.add_assoc]
  refine hK _ _ _ ?_; clear hK K
  refine awp_seq_k fun K1 hK1 => ?_
  refine awp_reg zs [1, 2, 4, 11] fun K hK => ?_
  try simp only [go_sem, seval]
  refine callK_use Tryz.func47 rfl rfl rfl ((c_cell_CheckSchema s _ _)) ?_
  try simp only [go_sem, seval]
  refine hK _ _ _ ?_; clear hK K
  refine awp_cnd (fun hb => ?_) (fun hb => ?_)
  ·skip
   exact absurd hb (by rw [hz]; decide) --dead
  ·skip
   refine awp_skip ?_
   try simp only [go_sem, seval]
   refine hK1 _ _ _ ?_
   first | clear hK1 K1 | skip
   refine awp_seq_k fun K2 hK2 => ?_
   refine awp_reg zs [1, 2, 4, 15] fun K hK => ?_
   try simp only [go_sem, seval, List.length_map]
   refine hK _ _ _ ?_; clear hK K
   refine awp_cnd (fun hb => ?_) (fun hb => ?_)
   ·skip
    refine awp_reg zs [4, 5] fun K hK => ?_
    try simp only [go_sem, seval]
    refine hK _ _ _ ?_; clear hK K
    refine awp_ret ?_
    try simp only [go_sem, seval]
    exact ⟨_, rfl, fun k hk => by (repeat rw [if_neg (by omega)]), .kl ⟨⟨trivial, trivial, trivial, trivial, trivial, trivial, trivial, ⟨trivial, trivial, trivial, trivial, trivial, trivial, trivial, trivial, trivial, trivial, trivial⟩, trivial⟩, trivial, trivial⟩⟩
   ·skip
    exact absurd (of_decide_eq_false hb) (by omega) --dead
theorem c_order_DecodeReply_long (b : List UInt8) (hl : b.length = 1048577) (H : Heap) (n : Nat) : Ret Tryz.prog 37 [bys b] H n (.tup [repZ, .int .i64 2]) H n := by
  refine Ret.fin ?_
  refine acalls_of_awp Tryz.func37 rfl Tryz.ntmps37 (congrArg Array.toList Tryz.results37) (by simp) ?_
  simp only [go_sem]
  refine awp_reg zs [0, 2] fun K hK => ?_
  try simp only [go_sem, seval]
  refine hK _ _ _ ?_; clear hK K
  refine awp_seq_k fun K1 hK1 => ?_
  refine awp_reg zs [0, 2, 8] fun K hK => ?_
  try simp only [go_sem, seval, List.length_map]
  refine hK _ _ _ ?_; clear hK K
  refine awp_cnd (fun hb => ?_) (fun hb => ?_)
  ·skip
   refine awp_reg zs [2, 3] fun K hK => ?_
   try simp only [go_sem, seval]
   refine hK _ _ _ ?_; clear hK K
   refine awp_ret ?_
   try simp only [go_sem, seval]
   exact ⟨_, rfl, fun k hk => by (repeat rw [if_neg (by omega)]), .kl ⟨⟨trivial, trivial, trivial, ⟨trivial, trivial, trivial, trivial⟩, trivial⟩, trivial, trivial⟩⟩
  ·skip
   exact absurd (of_decide_eq_false hb) (by omega) --dead
set_option maxRecDepth 100000 in
set_option maxHeartbeats 3200000 in
theorem c_law14_OrderLong (a b c : Int) {H : Heap} {n : Nat} (hG : GOK 0 2 H n) : Ret Tryz.prog 9 [.int .i64 a, .int .i64 b, .int .i64 c] H n (.bool true) H n := by
  have r1 : (0 : Nat) = 0 := rfl
  have r2 := r1
  refine Ret.fin ?_
  refine acalls_of_awp Tryz.func9 rfl Tryz.ntmps9 (congrArg Array.toList Tryz.results9) (by simp) ?_
  simp only [go_sem]
  refine awp_reg zs [0, 1, 2] fun K hK => ?_
  try simp only [go_sem, seval, -List.reduceReplicate]
  repeat (first | (refine And.intro ?_ ?_; · first | exact ⟨by omega, .inr trivial, by omega, by omega⟩ | exact ⟨rfl, by simp [AV.sz, AV.szs, AV.memOK]⟩) | refine peel ?_)
  refine hK _ _ _ ?_; clear hK K
  refine awp_seq_k fun K1 hK1 => ?_
  refine awp_reg zs [0, 1, 2, 47] fun K hK => ?_
  try simp only [go_sem, seval, -List.reduceReplicate]
  repeat (first | (refine And.intro ?_ ?_; · first | exact ⟨by omega, .inr trivial, by omega, by omega⟩ | exact ⟨rfl, by simp [AV.sz, AV.szs, AV.memOK]⟩) | refine peel ?_)
  refine callK_use Tryz.func12 rfl rfl rfl ((c_law14_told (hG.on (fun k hk => by (try simp only [Heap.put_get]); (repeat rw [if_neg (by omega)])) (by omega)))) ?_
  try simp only [go_sem, seval, -List.reduceReplicate]
  repeat (first | (refine And.intro ?_ ?_; · first | exact ⟨by omega, .inr trivial, by omega, by omega⟩ | exact ⟨rfl, by simp [AV.sz, AV.szs, AV.memOK]⟩) | refine peel ?_)
  refine hK _ _ _ ?_; clear hK K
  refine awp_cnd (fun hb => ?_) (fun hb => ?_)
  ·skip
   refine awp_reg zs [6] fun K hK => ?_
   try simp only [go_sem, seval, -List.reduceReplicate]
   repeat (first | (refine And.intro ?_ ?_; · first | exact ⟨by omega, .inr trivial, by omega, by omega⟩ | exact ⟨rfl, by simp [AV.sz, AV.szs, AV.memOK]⟩) | refine peel ?_)
   refine callK_use Tryz.func12 rfl rfl rfl ((c_law14_told (hG.on (fun k hk => by (try simp only [Heap.put_get]); (repeat rw [if_neg (by omega)])) (by omega)))) ?_
   try simp only [go_sem, seval, -List.reduceReplicate]
   repeat (first | (refine And.intro ?_ ?_; · first | exact ⟨by omega, .inr trivial, by omega, by omega⟩ | exact ⟨rfl, by simp [AV.sz, AV.szs, AV.memOK]⟩) | refine peel ?_)
   refine hK _ _ _ ?_; clear hK K
   refine awp_ret ?_
   try simp only [go_sem, seval, -List.reduceReplicate]
   first | exact ⟨_, rfl, .kl trivial⟩ | exact ⟨_, rfl, fun _ _ => rfl, .kl trivial⟩ | exact ⟨_, rfl, fun k hk => by simp only [Heap.put_get]; (repeat rw [if_neg (by omega)]); exact hl7 k hk, .kl trivial⟩ | exact ⟨_, rfl, fun k hk => by (repeat rw [if_neg (by omega)]); exact hl7 k hk, .kl trivial⟩
  ·skip
   have hbd : 1 ≤ a ∧ a ≤ 16 ∧ 0 ≤ b ∧ b ≤ 4096 ∧ 0 ≤ c ∧ c ≤ 300 := by simp at hb; omega
   obtain ⟨nn, rfl⟩ : ∃ k : Nat, a = k := ⟨a.toNat, by omega⟩
   obtain ⟨size, rfl⟩ : ∃ k : Nat, b = k := ⟨b.toNat, by omega⟩
   obtain ⟨cells, rfl⟩ : ∃ k : Nat, c = k := ⟨c.toNat, by omega⟩
   refine awp_skip ?_
   try simp only [go_sem, seval, -List.reduceReplicate]
   refine hK1 _ _ _ ?_
   first | clear hK1 K1 | skip
   refine awp_reg zo [0, 1, 2, 7] fun K hK => ?_
   try simp only [go_sem, seval, -List.reduceReplicate]
   repeat (first | (refine And.intro ?_ ?_; · first | exact ⟨by omega, .inr trivial, by omega, by omega⟩ | exact ⟨rfl, by simp [AV.sz, AV.szs, AV.memOK]⟩) | refine peel ?_)
   refine hK _ _ _ ?_; clear hK K
   refine awp_seq_k fun K2 hK2 => ?_
   refine awp_reg zs [0, 1, 2, 7, 8] fun K hK => ?_
   try simp only [go_sem, seval, -List.reduceReplicate]
   repeat (first | (refine And.intro ?_ ?_; · first | exact ⟨by omega, .inr trivial, by omega, by omega⟩ | exact ⟨rfl, by simp [AV.sz, AV.szs, AV.memOK]⟩) | refine peel ?_)
   refine hK _ _ _ ?_; clear hK K
   refine awp_block ?_
   refine awp_adopt_obj (n + 1) 4 (els' := [bxL (.osl (n + 2) 0 0 0) .nilsl]) (Heap.put_same _ _ _) ⟨Adp.agg ⟨.refl _ _, .refl _ _, .refl _ _, .refl _ _, Adp.nilsl _, .refl _ _, .refl _ _, .refl _ _, trivial⟩, trivial⟩ ?_
   refine awp_loop (fun T' H' n' => ∃ (i vc : Nat) (els : List AV) (ks : List Nat), i ≤ 8 ∧ els.length = i ∧ T' = tl [(0, .int .i64 nn), (1, .int .i64 size), (2, .int .i64 cells), (7, .loc (n + 1) 0 0 0 []), (8, .int .i64 i)] ∧ H' (n + 1) = some (.arr 0 17 [bxL (.osl (n + 2) vc 0 i) .nilsl]) ∧ H' (n + 2) = some (.arr vc 4 els) ∧ Pile (n + 3) els ((List.replicate i cdL).map condAV) ks H' n' ∧ (∀ k, k < n → H' k = H k) ∧ n + 3 ≤ n') (fun T' _ _ => 8 - iv (T' 8)) ?_ ?_
   ·skip
    exact ⟨0, 0, [], [], by omega, rfl, rfl, by simp [Heap.put], by simp [Heap.put], Pile.nil _ _ _, fun k hk => by simp only [Heap.put_get]; (repeat rw [if_neg (by omega)]), by omega⟩
   intro T1 H1 n1
   rintro ⟨i, vc, els, ks, hi, hel, rfl, r1, r2, hp, hlow, hnn⟩
   refine awp_seq_k fun K3 hK3 => ?_
   refine awp_reg zs [0, 1, 2, 7, 8, 53] fun K hK => ?_
   try simp only [go_sem, seval, -List.reduceReplicate]
   repeat (first | (refine And.intro ?_ ?_; · first | exact ⟨by omega, .inr trivial, by omega, by omega⟩ | exact ⟨rfl, by simp [AV.sz, AV.szs, AV.memOK]⟩) | refine peel ?_)
   refine hK _ _ _ ?_; clear hK K
   refine awp_cnd (fun hb => ?_) (fun hb => ?_)
   ·skip
    have hlt : i < 8 := by have := of_decide_eq_true hb; omega
    have hE : els.take i = els := List.take_of_length_le (by omega)
    have e1 : (n + 1 = n1) = False := by simp; omega
    have e2 : (n + 2 = n1) = False := by simp; omega
    refine awp_skip ?_
    try simp only [go_sem, seval, -List.reduceReplicate]
    refine hK3 _ _ _ ?_
    first | clear hK3 K3 | skip
    refine awp_seq_k fun K4 hK4 => ?_
    refine awp_block ?_
    refine awp_drp1 rfl zs [0, 1, 2, 7, 8] [.q, .q, .w [0, 1], .q, .q, .w [], .q, .w []] [0, 1, 2, 3, 4, 5, 6, 7] [0, 1, 2, 3, 4, 5, 6, 7] (by kernel_rfl) (fun _ _ _ _ _ h => h) fun K hK => ?_
    try simp only [go_sem, seval, -List.reduceReplicate, r1, r2, bxL, e1, e2, hE]
    repeat (first | (refine And.intro ?_ ?_; · first | exact ⟨by omega, .inr trivial, by omega, by omega⟩ | exact ⟨rfl, by simp [AV.sz, AV.szs, AV.memOK]⟩) | refine peel ?_)
    refine hK _ _ _ ?_; clear hK K
    try simp only [go_sem, seval, -List.reduceReplicate]
    refine hK4 _ _ _ ?_
    first | clear hK4 K4 | skip
    refine awp_reg1 zs [0, 1, 2, 7, 8] fun K hK => ?_
    try simp only [go_sem, seval, -List.reduceReplicate]
    repeat (first | (refine And.intro ?_ ?_; · first | exact ⟨by omega, .inr trivial, by omega, by omega⟩ | exact ⟨rfl, by simp [AV.sz, AV.szs, AV.memOK]⟩) | refine peel ?_)
    refine hK _ _ _ ?_; clear hK K
    try simp only [go_sem, seval, -List.reduceReplicate]
    refine ⟨⟨i + 1, vc + 1, _, ks ++ [n1], by omega, ?_, by rw [w1 (by omega)], ?_, rfl, ?_, fun k hk => ?_, by omega⟩, by rw [w1 (by omega)]; simp; omega⟩
    · simp [hel]
    · rfl
    · rw [rep_succ]
      exact hp.add (fun k h1 h2 => by simp only [Heap.put_get]; repeat rw [if_neg (by omega)]) (own_cdL (by simp only [Heap.put_get]; (repeat rw [if_neg (by omega)]); simp [-List.reduceReplicate])) (by simp) (fun k hk => by simp at hk; omega) (by omega) (by omega)
    · (repeat rw [if_neg (by omega)])
      exact hlow k hk
   ·skip
    have hi8 : i = 8 := by have := of_decide_eq_false hb; omega
    rw [hi8] at r1 hp hel
    refine awp_exit ?_
    try simp only [go_sem, seval, -List.reduceReplicate]
    refine hK2 _ _ _ ?_
    first | clear hK2 K2 | skip
    refine awp_seq_k fun K5 hK5 => ?_
    refine awp_reg zs [0, 1, 2, 7, 9] fun K hK => ?_
    try simp only [go_sem, seval, -List.reduceReplicate]
    repeat (first | (refine And.intro ?_ ?_; · first | exact ⟨by omega, .inr trivial, by omega, by omega⟩ | exact ⟨rfl, by simp [AV.sz, AV.szs, AV.memOK]⟩) | refine peel ?_)
    refine hK _ _ _ ?_; clear hK K
    refine awp_block ?_
    refine awp_sel [0, 1, 2, 7, 9] ?_
    simp only [go_sem, seval]
    obtain ⟨ko, hko⟩ : ∃ k, k = n1 := ⟨n1, rfl⟩
    refine awp_adopt_obj (n + 1) 6 (els' := [bxL (.osl (n + 2) vc 0 8) (.osl ko 0 0 0)]) r1 ⟨Adp.agg ⟨.refl _ _, .refl _ _, .refl _ _, .refl _ _, .refl _ _, hko ▸ Adp.nilsl _, .refl _ _, .refl _ _, trivial⟩, trivial⟩ ?_
    refine awp_loop (fun T' H' n' => ∃ (j vo : Nat) (el2 : List AV) (ks2 : List Nat), j ≤ nn ∧ el2.length = j ∧ T' = tl [(0, .int .i64 nn), (1, .int .i64 size), (2, .int .i64 cells), (7, .loc (n + 1) 0 0 0 []), (9, .int .i64 j)] ∧ H' (n + 1) = some (.arr 0 17 [bxL (.osl (n + 2) vc 0 8) (.osl ko vo 0 j)]) ∧ H' (n + 2) = some (.arr vc 4 els) ∧ H' ko = some (.arr vo 6 el2) ∧ Pile (n + 3) els ((List.replicate 8 cdL).map condAV) ks H' ko ∧ Pile (ko + 1) el2 ((List.replicate j (opL size)).map opAV) ks2 H' n' ∧ (∀ k, k < n → H' k = H k) ∧ ko + 1 ≤ n') (fun T' _ _ => nn - iv (T' 9)) ?_ ?_
    ·skip
     exact ⟨0, 0, [], [], by omega, rfl, rfl, Heap.put_same _ _ _, by simp only [Heap.put_get]; (repeat rw [if_neg (by omega)]); exact r2, by subst hko; simp only [Heap.put_get]; (repeat rw [if_neg (by omega)]); simp, hp.on (fun k h1 h2 => by simp only [Heap.put_get]; repeat rw [if_neg (by omega)]) (by omega), Pile.nil _ _ _, fun k hk => by simp only [Heap.put_get]; (repeat rw [if_neg (by omega)]); exact hlow k hk, by omega⟩
    intro T1 H1 n1
    rintro ⟨j, vo, el2, ks2, hj, hel2, rfl, r1, r3, r2, hp1, hp2, hlow2, hnn2⟩
    refine awp_seq_k fun K6 hK6 => ?_
    refine awp_reg zs [0, 1, 2, 7, 9, 65] fun K hK => ?_
    try simp only [go_sem, seval, -List.reduceReplicate]
    repeat (first | (refine And.intro ?_ ?_; · first | exact ⟨by omega, .inr trivial, by omega, by omega⟩ | exact ⟨rfl, by simp [AV.sz, AV.szs, AV.memOK]⟩) | refine peel ?_)
    refine hK _ _ _ ?_; clear hK K
    refine awp_cnd (fun hb => ?_) (fun hb => ?_)
    ·skip
     have hlt : j < nn := by have := of_decide_eq_true hb; omega
     have hE : el2.take j = el2 := List.take_of_length_le (by omega)
     have e1 : (n + 1 = n1) = False := by simp; omega
     have e2 : (ko = n1) = False := by simp; omega
     have e3 : (n + 2 = n1) = False := by simp; omega
     have e4 : (n + 1 = ko) = False := by simp; omega
     refine awp_skip ?_
     try simp only [go_sem, seval, -List.reduceReplicate]
     refine hK6 _ _ _ ?_
     first | clear hK6 K6 | skip
     refine awp_seq_k fun K7 hK7 => ?_
     refine awp_block ?_
     refine awp_drp1 rfl zs [0, 1, 2, 7, 9] [.q, .q, .m, .w [0, 1], .q, .q, .w [], .q, .w []] [0, 1, 2, 3, 4, 5, 6, 7, 8] [0, 1, 2, 3, 4, 5, 6, 7, 8] (by kernel_rfl) (fun _ _ _ _ _ h => h) fun K hK => ?_
     try simp only [go_sem, seval, -List.reduceReplicate, r1, r2, bxL, hE, e1, e2, e4, Int.toNat_natCast]
     repeat (first | (refine And.intro ?_ ?_; · first | exact ⟨by omega, .inr trivial, by omega, by omega⟩ | exact ⟨rfl, by simp [AV.sz, AV.szs, AV.memOK]⟩) | refine peel ?_)
     refine hK _ _ _ ?_; clear hK K
     try simp only [go_sem, seval, -List.reduceReplicate]
     refine hK7 _ _ _ ?_
     first | clear hK7 K7 | skip
     refine awp_reg1 zs [0, 1, 2, 7, 9] fun K hK => ?_
     try simp only [go_sem, seval, -List.reduceReplicate]
     repeat (first | (refine And.intro ?_ ?_; · first | exact ⟨by omega, .inr trivial, by omega, by omega⟩ | exact ⟨rfl, by simp [AV.sz, AV.szs, AV.memOK]⟩) | refine peel ?_)
     refine hK _ _ _ ?_; clear hK K
     try simp only [go_sem, seval, -List.reduceReplicate]
     refine ⟨⟨j + 1, vo + 1, el2 ++ [.agg [.int .i64 1, .int .i64 0, .nilsl, .int .i64 0, .osl n1 0 0 size, .int .i64 0]], ks2 ++ [n1], by omega, by simp [hel2], by rw [w1 (by omega)], rfl, ?_, ?_, ?_, ?_, fun k hk => ?_, by omega⟩, by rw [w1 (by omega)]; simp; omega⟩
     · (repeat rw [if_neg (by omega)]); exact r3
     · (repeat rw [if_neg (by omega)])
     · exact hp1.on (fun k h1 h2 => by simp only [Heap.put_get]; repeat rw [if_neg (by omega)]) (Nat.le_refl _)
     · rw [rep_succ]
       exact hp2.add (fun k h1 h2 => by simp only [Heap.put_get]; repeat rw [if_neg (by omega)]) (own_opL (by simp only [Heap.put_get]; (repeat rw [if_neg (by omega)]); simp [-List.reduceReplicate])) (by simp) (fun k hk => by simp at hk; omega) (by omega) (by omega)
     · (repeat rw [if_neg (by omega)])
       exact hlow2 k hk
    ·skip
     have hjn : j = nn := by have := of_decide_eq_false hb; omega
     subst hjn
     refine awp_exit ?_
     try simp only [go_sem, seval, -List.reduceReplicate]
     refine hK5 _ _ _ ?_
     first | clear hK5 K5 | skip
     refine awp_ownO (fun k => n + 2 ≤ k) (n + 1) (lj' := [cmdAV (cL j size)]) r1 (by omega) (.cons (.agg (.cons (.refl _) (.cons (.refl _) (.cons (.refl _) (.cons (.refl _) (.cons (.own (hp1.whole r3 hel) fun k hk => by rcases List.mem_cons.1 hk with rfl | h; omega; have := hp1.lo k h; omega) (.cons (.own (hp2.whole r2 hel2) fun k hk => by rcases List.mem_cons.1 hk with rfl | h; omega; have := hp2.lo k h; omega) (.cons (.refl _) (.cons (.agg (.cons (.own .nilsl (by simp)) (.cons (.own .nilsl (by simp)) (.cons (.own .nilsl (by simp)) (.cons (.own .nilsl (by simp)) (.cons (.refl _) (.cons (.refl _) (.cons (.refl _) (.cons (.refl _) (.cons (.refl _) (.cons (.own .nilsl (by simp)) .nil))))))))))) .nil))))))))) .nil) ?_
     refine awp_gen (fun H' n' => H' (n + 1) = some (.arr 0 17 [cmdAV (cL j size)]) ∧ (∀ k, k < n → H' k = H k) ∧ n + 3 ≤ n') ⟨Heap.put_same _ _ _, fun k hk => by rw [Heap.put_ne _ _ (by omega)]; unfold Heap.dropS; rw [if_neg (by omega)]; exact hlow2 k hk, by omega⟩ fun H4 n4 ⟨r1, hl4, hn4⟩ => ?_
     have hGa := (hl4 0 hG.gek).trans hG.kinds
     have hGb := (hl4 2 hG.get).trans hG.table
     have hE := fun n9 => Ret.below hGa fun g1 => Ret.below hGb fun g2 => c_order_Encode s1 (by decide) (cL j size) (cL_fits (by omega) (by omega)) 0 (H := H4) (n := n9) ⟨hGa, hGb, g1, g2⟩ (fun h => by cases h)
     have hcc := cL_check (n := j) (size := size) (by omega) (by omega) (by omega) 0
     obtain ⟨B, hB⟩ : ∃ B, B = if checkC 0 s1 (cL j size) = 0 then cmdB (cL j size) else [] := ⟨_, rfl⟩
     obtain ⟨ck, hck⟩ : ∃ ck, ck = checkC 0 s1 (cL j size) := ⟨_, rfl⟩
     rw [← hB, ← hck] at hE
     have hck' := hck.trans hcc
     rw [← hck] at hB
     have hkk : (roomL j size ≤ 98304 ∧ ck = 0 ∧ B.length = roomL j size) ∨ (98304 < roomL j size ∧ ck = 2 ∧ B = []) := by
       by_cases h : roomL j size ≤ 98304
       · rw [if_pos h] at hck'; left; rw [if_pos hck'] at hB; exact ⟨h, hck', by rw [hB, cL_len (by omega) (by omega)]⟩
       · rw [if_neg h] at hck'; right; rw [if_neg (by omega)] at hB; exact ⟨by omega, hck', hB⟩
     have hcag : ∀ c, (cmdAV c).isAgg = true := fun _ => rfl
     have hcmo : ∀ c, (cmdAV c).memOK = true := fun _ => rfl
     refine awp_drp rfl zs [0, 1, 2, 10, 11] [.c, .q, .c, .m, .q, .q, .q, .q] [0, 1, 2, 3, 4, 5, 6, 7] [0, 1, 2, 3, 4, 5, 6, 7] (by kernel_rfl) (fun _ _ _ _ _ h => h) fun K hK => ?_
     try simp only [go_sem, seval, -List.reduceReplicate, r1, cmdAV_sz, hcag]
     repeat (first | (refine And.intro ?_ ?_; · first | exact ⟨by omega, .inr trivial, by omega, by omega⟩ | exact ⟨rfl, by simp [AV.sz, AV.szs, AV.memOK]⟩) | refine peel ?_)
     refine callQG_use Tryz.func41 rfl rfl rfl (fun _ n => (c_law14_one _ _)) ?_
     try simp only [go_sem, seval, -List.reduceReplicate]
     repeat (first | (refine And.intro ?_ ?_; · first | exact ⟨by omega, .inr trivial, by omega, by omega⟩ | exact ⟨rfl, by simp [AV.sz, AV.szs, AV.memOK]⟩) | refine peel ?_)
     refine callQG_use Tryz.func17 rfl rfl rfl (fun _ n9 => hE n9) ?_
     try simp only [go_sem, seval, -List.reduceReplicate]
     repeat (first | (refine And.intro ?_ ?_; · first | exact ⟨by omega, .inr trivial, by omega, by omega⟩ | exact ⟨rfl, by simp [AV.sz, AV.szs, AV.memOK]⟩) | refine peel ?_)
     refine hK _ _ _ ?_; clear hK K
     refine awp_reg zs [0, 1, 2, 10, 11, 12] fun K hK => ?_
     try simp only [go_sem, seval, -List.reduceReplicate]
     repeat (first | (refine And.intro ?_ ?_; · first | exact ⟨by omega, .inr trivial, by omega, by omega⟩ | exact ⟨rfl, by simp [AV.sz, AV.szs, AV.memOK]⟩) | refine peel ?_)
     refine hK _ _ _ ?_; clear hK K
     refine awp_seq_jl [0, 2, 10, 11, 12] (fun T' H' n' => T' = tl [(0, .int .i64 j), (2, .int .i64 cells), (10, bys B), (11, .int .i64 ck), (12, .int .i64 (eachL size : Nat))] ∧ (∀ k, k < n → H' k = H k) ∧ n ≤ n') ?_ ?_
     ·skip
      refine awp_reg zs [0, 2, 10, 11, 12, 85] fun K hK => ?_
      try simp only [go_sem, seval, -List.reduceReplicate]
      repeat (first | (refine And.intro ?_ ?_; · first | exact ⟨by omega, .inr trivial, by omega, by omega⟩ | exact ⟨rfl, by simp [AV.sz, AV.szs, AV.memOK]⟩) | refine peel ?_)
      refine hK _ _ _ ?_; clear hK K
      refine awp_cnd (fun hb => ?_) (fun hb => ?_)
      ·skip
       have hs8 : 128 ≤ size := by have := of_decide_eq_true hb; omega
       refine awp_reg1 zs [0, 2, 10, 11, 12] fun K hK => ?_
       try simp only [go_sem, seval, -List.reduceReplicate]
       repeat (first | (refine And.intro ?_ ?_; · first | exact ⟨by omega, .inr trivial, by omega, by omega⟩ | exact ⟨rfl, by simp [AV.sz, AV.szs, AV.memOK]⟩) | refine peel ?_)
       refine hK _ _ _ ?_; clear hK K
       try simp only [go_sem, seval, -List.reduceReplicate]
       first | exact ⟨by rw [w64 (n := (size : Int) + 13) (by omega) (by omega), w64 (by omega) (by omega)]; unfold eachL; rw [if_pos hs8]; rfl, hl4, by omega⟩ | exact ⟨by rw [w64 (n := (size : Int) + 13) (by omega) (by omega)]; unfold eachL; rw [if_neg hs8]; rfl, hl4, by omega⟩
      ·skip
       have hs8 : ¬ 128 ≤ size := by have := of_decide_eq_false hb; omega
       refine awp_skip ?_
       try simp only [go_sem, seval, -List.reduceReplicate]
       first | exact ⟨by rw [w64 (n := (size : Int) + 13) (by omega) (by omega), w64 (by omega) (by omega)]; unfold eachL; rw [if_pos hs8]; rfl, hl4, by omega⟩ | exact ⟨by rw [w64 (n := (size : Int) + 13) (by omega) (by omega)]; unfold eachL; rw [if_neg hs8]; rfl, hl4, by omega⟩
     rintro T5 H5 n5 ⟨rfl, hl5, hn5⟩
     have hrm : IntKind.i64.wrap (32815 + IntKind.i64.wrap ((j : Int) * ((eachL size : Nat) : Int))) = ((roomL j size : Nat) : Int) := by
       have h1 : j * eachL size ≤ 16 * 4110 := Nat.mul_le_mul (by omega) (by unfold eachL; split <;> omega)
       have h2 : (j : Int) * ((eachL size : Nat) : Int) = ((j * eachL size : Nat) : Int) := by simp
       rw [h2, w64 (n := ((j * eachL size : Nat) : Int)) (by omega) (by omega), w64 (by omega) (by omega)]
       unfold roomL; omega
     refine awp_reg zs [2, 10, 11, 13] fun K hK => ?_
     try simp only [go_sem, seval, -List.reduceReplicate]
     repeat (first | (refine And.intro ?_ ?_; · first | exact ⟨by omega, .inr trivial, by omega, by omega⟩ | exact ⟨rfl, by simp [AV.sz, AV.szs, AV.memOK]⟩) | refine peel ?_)
     refine hK _ _ _ ?_; clear hK K
     refine awp_seq_k fun K8 hK8 => ?_
     simp only [hrm]
     refine awp_reg zs [2, 119] fun K hK => ?_
     try simp only [go_sem, seval, -List.reduceReplicate, List.length_map]
     repeat (first | (refine And.intro ?_ ?_; · first | exact fun _ h => by rw [h]; rfl | exact ⟨by omega, .inr trivial, by omega, by omega⟩ | exact ⟨rfl, by simp [AV.sz, AV.szs, AV.memOK]⟩) | refine peel ?_)
     refine hK _ _ _ ?_; clear hK K
     refine awp_cnd (fun hb => ?_) (fun hb => ?_)
     ·skip
      exfalso
      rcases hkk with ⟨h1, rfl, h3⟩ | ⟨h1, rfl, rfl⟩
      · have h1' : ((roomL j size : Nat) : Int) ≤ 98304 := by omega
        simp [h3, h1'] at hb
      · simp at hb; omega
      --dead
     ·skip
      refine awp_skip ?_
      try simp only [go_sem, seval, -List.reduceReplicate]
      refine hK8 _ _ _ ?_
      first | clear hK8 K8 | skip
      refine awp_reg zo [2, 14] fun K hK => ?_
      try simp only [go_sem, seval, -List.reduceReplicate]
      repeat (first | (refine And.intro ?_ ?_; · first | exact ⟨by omega, .inr trivial, by omega, by omega⟩ | exact ⟨rfl, by simp [AV.sz, AV.szs, AV.memOK]⟩) | refine peel ?_)
      refine hK _ _ _ ?_; clear hK K
      refine awp_seq_k fun K9 hK9 => ?_
      refine awp_reg zs [2, 14, 15] fun K hK => ?_
      try simp only [go_sem, seval, -List.reduceReplicate]
      repeat (first | (refine And.intro ?_ ?_; · first | exact ⟨by omega, .inr trivial, by omega, by omega⟩ | exact ⟨rfl, by simp [AV.sz, AV.szs, AV.memOK]⟩) | refine peel ?_)
      refine hK _ _ _ ?_; clear hK K
      refine awp_block ?_
      refine awp_adopt_obj (n5 + 1) 4 (ver := 0) (e := 2) (els := [.agg [.sl 1 [.int .u8 114], .nilsl]]) (els' := [.agg [.sl 1 [.int .u8 114], .osl (n5 + 3) 0 0 0]]) (by simp [Heap.put]) ⟨Adp.agg ⟨.refl _ _, Adp.nilsl _, trivial⟩, trivial⟩ ?_
      refine awp_loop (fun T' H' n' => ∃ (i vc : Nat) (els : List AV) (ks : List Nat), i ≤ cells ∧ els.length = i ∧ T' = tl [(2, .int .i64 cells), (14, .loc (n5 + 2) 0 0 0 []), (15, .int .i64 i)] ∧ H' (n5 + 2) = some (.arr 0 6 [.agg [.int .i64 0, .bool false, .int .i64 0, .agg [.osl (n5 + 1) 0 0 1, .nilsl, .bool false]]]) ∧ H' (n5 + 1) = some (.arr 0 2 [.agg [.sl 1 [.int .u8 114], .osl (n5 + 3) vc 0 i]]) ∧ H' (n5 + 3) = some (.arr vc 4 els) ∧ Pile (n5 + 4) els ((List.replicate i ceL).map celAV) ks H' n' ∧ (∀ k, k < n → H' k = H k) ∧ n5 + 4 ≤ n') (fun T' _ _ => cells - iv (T' 15)) ?_ ?_
      ·skip
       exact ⟨0, 0, [], [], by omega, rfl, rfl, by simp [Heap.put], by simp [Heap.put], by simp [Heap.put], Pile.nil _ _ _, fun k hk => by simp only [Heap.put_get]; (repeat rw [if_neg (by omega)]); exact hl5 k hk, by omega⟩
      intro T1 H1 n1
      rintro ⟨i, vc, els, ks, hi, hel, rfl, r1, r2, r3, hp, hlow6, hnn6⟩
      refine awp_seq_k fun K10 hK10 => ?_
      refine awp_reg zs [2, 14, 15, 128] fun K hK => ?_
      try simp only [go_sem, seval, -List.reduceReplicate]
      repeat (first | (refine And.intro ?_ ?_; · first | exact ⟨by omega, .inr trivial, by omega, by omega⟩ | exact ⟨rfl, by simp [AV.sz, AV.szs, AV.memOK]⟩) | refine peel ?_)
      refine hK _ _ _ ?_; clear hK K
      refine awp_cnd (fun hb => ?_) (fun hb => ?_)
      ·skip
       have hlt : i < cells := by have := of_decide_eq_true hb; omega
       have hE : els.take i = els := List.take_of_length_le (by omega)
       have e1 : (n5 + 1 = n1) = False := by simp; omega
       have e2 : (n5 + 2 = n1) = False := by simp; omega
       have e3 : (n5 + 3 = n1) = False := by simp; omega
       refine awp_skip ?_
       try simp only [go_sem, seval, -List.reduceReplicate]
       refine hK10 _ _ _ ?_
       first | clear hK10 K10 | skip
       refine awp_seq_k fun K11 hK11 => ?_
       refine awp_block ?_
       refine awp_drp1 rfl zs [2, 14, 15] [.q, .q, .q, .q, .q, .q, .q, .q, .q, .w [0, 1, 2, 3, 4, 5, 6, 7, 8], .q, .q, .w [0, 1, 2], .q, .q, .w []] [0, 1, 2, 3, 4, 5, 6, 7, 8, 9, 10, 11, 12, 13, 14, 15] [0, 1, 2, 3, 4, 5, 6, 7, 8, 9, 10, 11, 12, 13, 14, 15] (by kernel_rfl) (fun _ _ _ _ _ h => h) fun K hK => ?_
       try simp only [go_sem, seval, -List.reduceReplicate, r1, r2, r3, e1, e2, e3, hE]
       repeat (first | (refine And.intro ?_ ?_; · first | exact ⟨by omega, .inr trivial, by omega, by omega⟩ | exact ⟨rfl, by simp [AV.sz, AV.szs, AV.memOK]⟩) | refine peel ?_)
       refine hK _ _ _ ?_; clear hK K
       try simp only [go_sem, seval, -List.reduceReplicate]
       refine hK11 _ _ _ ?_
       first | clear hK11 K11 | skip
       refine awp_reg1 zs [2, 14, 15] fun K hK => ?_
       try simp only [go_sem, seval, -List.reduceReplicate]
       repeat (first | (refine And.intro ?_ ?_; · first | exact ⟨by omega, .inr trivial, by omega, by omega⟩ | exact ⟨rfl, by simp [AV.sz, AV.szs, AV.memOK]⟩) | refine peel ?_)
       refine hK _ _ _ ?_; clear hK K
       try simp only [go_sem, seval, -List.reduceReplicate, r1]
       refine ⟨⟨i + 1, vc + 1, els ++ [.agg [.int .i64 0, .nilsl, .int .i64 1, .osl n1 0 0 4096]], ks ++ [n1], by omega, by simp [hel], by rw [w1 (by omega)], ?_, rfl, rfl, ?_, fun k hk => ?_, by omega⟩, by rw [w1 (by omega)]; simp; omega⟩
       · (repeat rw [if_neg (by omega)])
       · rw [rep_succ]
         exact hp.add (fun k h1 h2 => by simp only [Heap.put_get]; repeat rw [if_neg (by omega)]) (own_ceL (by simp only [Heap.put_get]; (repeat rw [if_neg (by omega)]); simp [-List.reduceReplicate])) (by simp) (fun k hk => by simp at hk; omega) (by omega) (by omega)
       · (repeat rw [if_neg (by omega)])
         exact hlow6 k hk
      ·skip
       have hin : i = cells := by have := of_decide_eq_false hb; omega
       subst hin
       refine awp_exit ?_
       try simp only [go_sem, seval, -List.reduceReplicate]
       refine hK9 _ _ _ ?_
       first | clear hK9 K9 | skip
       refine awp_ownO (fun k => n5 + 1 ≤ k ∧ k ≠ n5 + 2) (n5 + 2) (lj' := [repAV (rL i)]) r1 (by omega) (.cons (.agg (.cons (.refl _) (.cons (.refl _) (.cons (.refl _) (.cons (.agg (.cons (.osl r2 (by omega) (Nat.le_refl _) (.cons (.agg (.cons (.refl _) (.cons (FzO.own (hp.whole r3 hel) fun k hk => by rcases List.mem_cons.1 hk with rfl | h; omega; have := hp.lo k h; omega) .nil))) .nil)) (.cons .nilsl (.cons (.refl _) .nil)))) .nil))))) .nil) ?_
       refine awp_gen (fun H' n' => H' (n5 + 2) = some (.arr 0 6 [repAV (rL i)]) ∧ (∀ k, k < n → H' k = H k) ∧ n5 + 3 ≤ n') ⟨Heap.put_same _ _ _, fun k hk => by rw [Heap.put_ne _ _ (by omega)]; unfold Heap.dropS; rw [if_neg (by omega)]; exact hlow6 k hk, by omega⟩ fun H7 n7 ⟨r1, hl7, hn7⟩ => ?_
       have hrag : ∀ c, (repAV c).isAgg = true := fun _ => rfl
       have hrmo : ∀ c, (repAV c).memOK = true := fun _ => rfl
       have hrs : ∀ c, (repAV c).sz = 6 := repAV_sz
       refine awp_reg zs [2, 16, 17] fun K hK => ?_
       try simp only [go_sem, seval, -List.reduceReplicate, r1, hrag, hrs]
       repeat (first | (refine And.intro ?_ ?_; · first | exact ⟨by omega, .inr trivial, by omega, by omega⟩ | exact ⟨rfl, by simp [AV.sz, AV.szs, AV.memOK]⟩) | refine peel ?_)
       have hR := fun (Hc : Heap) (nc : Nat) => c_order_EncodeReply (rL i) (by simp [rL]) (fun x hx => by simp [rL] at hx; subst hx; simp; omega) (by simp [rL, zr]) Hc nc
       rw [rL_enc (by omega)] at hR
       obtain ⟨D, hD⟩ : ∃ D : List UInt8 × Int, D = if i ≤ 255 then (repB (rL i), 0) else ([], 2) := ⟨_, rfl⟩
       rw [← hD] at hR
       refine callK_use Tryz.func33 rfl rfl rfl (hR _ _) ?_
       try simp only [go_sem, seval, -List.reduceReplicate]
       repeat (first | (refine And.intro ?_ ?_; · first | exact ⟨by omega, .inr trivial, by omega, by omega⟩ | exact ⟨rfl, by simp [AV.sz, AV.szs, AV.memOK]⟩) | refine peel ?_)
       refine hK _ _ _ ?_; clear hK K
       refine awp_seq_k fun K12 hK12 => ?_
       refine awp_reg zs [168] fun K hK => ?_
       try simp only [go_sem, seval, -List.reduceReplicate, List.length_map]
       repeat (first | (refine And.intro ?_ ?_; · first | exact fun _ h => by rw [h]; rfl | exact ⟨by omega, .inr trivial, by omega, by omega⟩ | exact ⟨rfl, by simp [AV.sz, AV.szs, AV.memOK]⟩) | refine peel ?_)
       refine hK _ _ _ ?_; clear hK K
       refine awp_cnd (fun hb => ?_) (fun hb => ?_)
       ·skip
        exfalso
        by_cases h : i ≤ 255
        · rw [if_pos h] at hD; subst hD; have h' : (i : Int) ≤ 255 := by omega
          simp [h'] at hb
        · rw [if_neg h] at hD; subst hD; have h' : ¬ (i : Int) ≤ 255 := by omega
          simp [h'] at hb
        --dead
       ·skip
        refine awp_skip ?_
        try simp only [go_sem, seval, -List.reduceReplicate]
        refine hK12 _ _ _ ?_
        first | clear hK12 K12 | skip
        refine awp_lay 1 ?_
        refine awp_lay 1 ?_
        refine awp_drp rfl zs [19] [.c, .a (n7) [0], .c, .m, .q, .q, .a (n7 + 1) [0, 2, 4, 5], .w [5], .q] [0, 1, 2, 3, 4, 5, 6, 7, 8] [0, 1, 2, 3, 4, 5, 6, 7, 8] (by kernel_rfl) (fun _ _ _ _ _ h => h) fun K hK => ?_
        try simp only [go_sem, seval, -List.reduceReplicate]
        repeat (first | (refine And.intro ?_ ?_; · first | exact fun H2 hag => ⟨fun d hd => by cases hd; exact callQ_mk' Tryz.func41 rfl rfl rfl (fun n => c_law14_one _ n), trivial⟩ | exact fun H2 hag => trivial | exact ⟨by omega, .inr trivial, by omega, by omega⟩ | exact ⟨rfl, by simp [AV.sz, AV.szs, AV.memOK]⟩) | refine peel ?_)
        refine callQG_use Tryz.func41 rfl rfl rfl (fun _ n => (c_law14_one _ _)) ?_
        try simp only [go_sem, seval, -List.reduceReplicate]
        repeat (first | (refine And.intro ?_ ?_; · first | exact fun H2 hag => ⟨fun d hd => by cases hd; exact callQ_mk' Tryz.func41 rfl rfl rfl (fun n => c_law14_one _ n), trivial⟩ | exact fun H2 hag => trivial | exact ⟨by omega, .inr trivial, by omega, by omega⟩ | exact ⟨rfl, by simp [AV.sz, AV.szs, AV.memOK]⟩) | refine peel ?_)
        generalize hm : (98305 : Nat) = m
        have hdl : ∀ (Hc : Heap) (n9 : Nat), Hc n7 = some (.arr 1 1 (List.replicate m (AV.int .u8 0))) → Ret Tryz.prog 26 [.agg [.sl 3 [.agg [.str [102], .int .i64 1, .int .i64 0]]], .osl n7 1 0 m] Hc n9 (.tup [cmdZ, .int .i64 2]) Hc n9 := fun Hc n9 hc => Ret.lendQ (H0 := fun _ => none) (args' := [schAV s1, bys (List.replicate m 0)]) (Globs.none _) (.cons (.kl ⟨⟨⟨trivial, trivial, trivial, trivial⟩, trivial⟩, trivial⟩) (.cons ((own_zerosV hc).frz fun _ _ => Nat.zero_le _) .nil)) ⟨⟨trivial, trivial, trivial, trivial, trivial, trivial, trivial, ⟨trivial, trivial, trivial, trivial, trivial, trivial, trivial, trivial, trivial, trivial, trivial⟩, trivial⟩, trivial, trivial⟩ (c_order_Decode_long s1 (List.replicate m 0) (by decide) (by simp [hm]) _ n9)
        refine callQG_use Tryz.func26 rfl rfl rfl (fun _ n9 => hdl _ n9 (by simp [Heap.put, -List.reduceReplicate])) ?_
        try simp only [go_sem, seval, -List.reduceReplicate, cmdZ]
        repeat (first | (refine And.intro ?_ ?_; · first | exact fun H2 hag => ⟨fun d hd => by cases hd; exact callQ_mk' Tryz.func41 rfl rfl rfl (fun n => c_law14_one _ n), trivial⟩ | exact fun H2 hag => trivial | exact ⟨by omega, .inr trivial, by omega, by omega⟩ | exact ⟨rfl, by simp [AV.sz, AV.szs, AV.memOK]⟩) | refine peel ?_)
        refine ⟨fun H2 hag => ?_, ?_⟩
        · have g1 := hag.at n7 (by simp [Heap.put, -List.reduceReplicate])
          simp [Heap.put, -List.reduceReplicate] at g1
          simp only [go_sem, seval, -List.reduceReplicate]
          exact ⟨fun d hd => by cases hd; exact callQ_mk' Tryz.func41 rfl rfl rfl (fun n => c_law14_one _ n), fun d hd => by cases hd; exact callQ_mk' Tryz.func26 rfl rfl rfl (fun n9 => hdl H2 n9 g1)⟩
        refine hK _ _ _ ?_; clear hK K
        refine awp_reg zs [19, 21] fun K hK => ?_
        try simp only [go_sem, seval, -List.reduceReplicate, -List.reduceReplicate]
        repeat (first | (refine And.intro ?_ ?_; · first | exact ⟨by omega, .inr trivial, by omega, by omega⟩ | exact ⟨rfl, by simp [AV.sz, AV.szs, AV.memOK]⟩) | refine peel ?_)
        generalize hm2 : (1048577 : Nat) = m2
        refine callK_use Tryz.func37 rfl rfl rfl (Ret.lendQ (H0 := fun _ => none) (r := .tup [repZ, .int .i64 2]) (args' := [bys (List.replicate m2 0)]) (Globs.none _) (.cons ((own_zerosV (Heap.put_same _ _ _)).frz fun _ _ => Nat.zero_le _) .nil) ⟨⟨trivial, trivial, trivial, ⟨trivial, trivial, trivial, trivial⟩, trivial⟩, trivial, trivial⟩ (c_order_DecodeReply_long (List.replicate m2 0) (by simp [hm2]) _ _)) ?_
        try simp only [go_sem, seval, -List.reduceReplicate, -List.reduceReplicate, repZ]
        repeat (first | (refine And.intro ?_ ?_; · first | exact ⟨by omega, .inr trivial, by omega, by omega⟩ | exact ⟨rfl, by simp [AV.sz, AV.szs, AV.memOK]⟩) | refine peel ?_)
        refine hK _ _ _ ?_; clear hK K
        refine awp_reg zs [6] fun K hK => ?_
        try simp only [go_sem, seval, -List.reduceReplicate]
        repeat (first | (refine And.intro ?_ ?_; · first | exact ⟨by omega, .inr trivial, by omega, by omega⟩ | exact ⟨rfl, by simp [AV.sz, AV.szs, AV.memOK]⟩) | refine peel ?_)
        refine hK _ _ _ ?_; clear hK K
        refine awp_ret ?_
        try simp only [go_sem, seval, -List.reduceReplicate]
        first | exact ⟨_, rfl, .kl trivial⟩ | exact ⟨_, rfl, fun _ _ => rfl, .kl trivial⟩ | exact ⟨_, rfl, fun k hk => by simp only [Heap.put_get]; (repeat rw [if_neg (by omega)]); exact hl7 k hk, .kl trivial⟩ | exact ⟨_, rfl, fun k hk => by (repeat rw [if_neg (by omega)]); exact hl7 k hk, .kl trivial⟩
end Go.Proofs.YtifnhpmeoogedaaGreatDoor