/- Own layer: a nil slice in an answer becomes an owned one. Of every program. -/
import Derived.Test.YtijhkfhflpmajaaPG
import Derived.Test.YtijhkfhflpmajaaPF
set_option linter.unusedSimpArgs false
set_option linter.unusedVariables false
namespace Go.Sx
open Go
theorem AdpL.relT {n : Nat} {c : Ctx} (hl : c.ρ n 0 = some .nil) : ∀ {l m : List AV} {cs : List Value}, AdpL n l m → RelT c l cs → RelT c m cs
  | [], [], _, _, h => h
  | a :: l, b :: m, cs, hw, h => by
    simp only [RelT] at h ⊢
    obtain ⟨v, r, e, h1, h2⟩ := h
    exact ⟨v, r, e, hw.1.2 c false _ hl h1, AdpL.relT hl hw.2 h2⟩
  | [], _ :: _, _, hw, _ => hw.elim
  | _ :: _, [], _, hw, _ => hw.elim
theorem Adp.tup {n : Nat} {l m : List AV} (h : AdpL n l m) : Adp n (.tup l) (.tup m) := by
  refine ⟨rfl, fun c m' cs hl hr => ?_⟩
  cases m' with
  | true => simp only [Rel] at hr
  | false =>
    simp only [Rel] at hr ⊢
    obtain ⟨arr, e, h1⟩ := hr
    exact ⟨arr, e, h.relT hl h1⟩
theorem ACalls.adopt {P : Program} {f : FuncId} {args : List AV} {H : Heap} {n : Nat} {K K' : ARes → Heap → Nat → Prop} (h : ACalls P f args H n K)
    (hK : ∀ res H1 n1, K res H1 n1 → K' res H1 n1 ∨ ∃ r r' esz, res = .val r ∧ Adp n1 r r' ∧ K' (.val r') (H1.put n1 (some (.arr 0 esz []))) (n1 + 1)) : ACalls P f args H n K' := by
  intro c w vs hs hr
  refine (h c w vs hs hr).mono ?_
  rintro e w' ⟨res, c', H', n', hk, hst, hm⟩
  rcases hK _ _ _ hk with h1 | ⟨r, r', esz, rfl, ha, h1⟩
  · exact ⟨res, c', H', n', h1, hst, hm⟩
  · have hn := Step.newNil hst.sim esz
    refine ⟨.val r', _, _, _, h1, hst.trans hn, ?_⟩
    cases e with
    | returned v => exact ha.2 _ false _ Ctx.addLoc_same (Rel.mono hn.le _ _ _ hm)
    | _ => exact hm.elim
theorem ACalls.post_adopt {P : Program} {f : FuncId} {args : List AV} {H : Heap} {n : Nat} {K K' : ARes → Heap → Nat → Prop} (h : ACalls P f args H n K)
    (hK : ∀ res H1 n1, K res H1 n1 → K' res H1 n1 ∨ ∃ k ver e els els' esz, H1 k = some (.arr ver e els) ∧ AdpL n1 els els' ∧ K' res ((H1.put n1 (some (.arr 0 esz []))).put k (some (.arr ver e els'))) (n1 + 1)) : ACalls P f args H n K' := by
  intro c w vs hs hr
  refine (h c w vs hs hr).mono ?_
  rintro ex w' ⟨res, c', H', n', hk, hst, hm⟩
  rcases hK _ _ _ hk with h0 | ⟨k, ver, e, els, els', esz, h1, ha, h2⟩
  · exact ⟨res, c', H', n', h0, hst, hm⟩
  have hn := Step.newNil hst.sim esz
  have hkn : k < n' := by
    rcases Nat.lt_or_ge k n' with h9 | h9
    · exact h9
    · have := (hst.sim.fresh k h9).1; rw [this] at h1; cases h1
  have hs2 := Step.retell (els' := els') hn.sim (show (H'.put n' (some (.arr 0 esz []))) k = some (.arr ver e els) by rw [Heap.put_ne _ _ (by omega)]; exact h1) (fun ds hd => ha.relF Ctx.addLoc_same hd) ha.len.symm ha.szAll
  refine ⟨res, _, _, _, h2, (hst.trans hn).trans hs2, ?_⟩
  have hle := hn.le.trans hs2.le
  cases ex <;> cases res <;> first | exact Rel.mono hle _ _ _ hm | (obtain ⟨v, h3, h4⟩ := hm; exact ⟨v, h3, Rel.mono hle _ _ _ h4⟩) | exact hm
end Go.Sx
namespace Go.Rt
open Go Go.Sx
theorem kls0_bytes : ∀ (b : List UInt8) (n : Nat), AV.kls n (b.map byteAV)
  | [], _ => trivial
  | _ :: b, n => ⟨trivial, kls0_bytes b n⟩
theorem frzL_kl {H : Heap} {n : Nat} : ∀ (l : List AV), AV.kls n l → FrzL H n l l
  | [], _ => .nil
  | _ :: l, h => .cons (.kl h.1) (frzL_kl l h.2)
structure Lp where
  k : Nat
  ver : Nat
  els : List AV
instance : Inhabited Lp := ⟨⟨0, 0, []⟩⟩
structure Lp.here (H : Heap) (p : Lp) (b : List UInt8) : Prop where
  at' : H p.k = some (.arr p.ver 1 p.els)
  len : b.length ≤ p.els.length
  tk : p.els.take b.length = b.map byteAV
structure Lp.ok (H : Heap) (n : Nat) (p : Lp) (b : List UInt8) : Prop extends Lp.here H p b where
  lt : p.k < n
theorem Lp.here.mono {H H' : Heap} {p : Lp} {b : List UInt8} (h : p.here H b) (hH : H' p.k = H p.k) : p.here H' b := ⟨hH.trans h.at', h.len, h.tk⟩
def Lp.av (p : Lp) (len : Nat) : AV := .osl p.k p.ver 0 len
attribute [go_sem] Lp.av
theorem Lp.ok.mono {H H' : Heap} {n n' : Nat} {p : Lp} {b : List UInt8} (h : p.ok H n b) (hH : ∀ k, k < n → H' k = H k) (hn : n ≤ n') : p.ok H' n' b :=
  ⟨h.tohere.mono (hH _ h.lt), Nat.lt_of_lt_of_le h.lt hn⟩
theorem Lp.ok.frz {H : Heap} {n : Nat} {p : Lp} {b : List UInt8} (h : p.ok H n b) : Frz H 0 (p.av b.length) (bys b) :=
  .osl h.at' (Nat.zero_le _) (by have := h.len; omega) (by rw [List.drop_zero, h.tk]; exact frzL_kl _ (kls0_bytes b 0))
structure LEnt where
  e : Ent
  r : Lp
  q : Lp
  v : Lp
instance : Inhabited LEnt := ⟨⟨default, default, default, default⟩⟩
def lentAV (x : LEnt) : AV := .agg [x.r.av x.e.row.length, .int .i64 x.e.fam, x.q.av x.e.qual.length, .int .i64 x.e.ts, .int .i64 x.e.seq, .int .i64 x.e.kind, x.v.av x.e.value.length]
attribute [go_sem] lentAV
structure LEnt.ok (H : Heap) (n : Nat) (x : LEnt) : Prop where
  r : x.r.ok H n x.e.row
  q : x.q.ok H n x.e.qual
  v : x.v.ok H n x.e.value
theorem LEnt.ok.mono {H H' : Heap} {n n' : Nat} {x : LEnt} (h : x.ok H n) (hH : ∀ k, k < n → H' k = H k) (hn : n ≤ n') : x.ok H' n' := ⟨h.r.mono hH hn, h.q.mono hH hn, h.v.mono hH hn⟩
theorem LEnt.ok.frz {H : Heap} {n : Nat} {x : LEnt} (h : x.ok H n) : Frz H 0 (lentAV x) (entAV x.e) :=
  .agg (.cons h.r.frz (.cons (.kl trivial) (.cons h.q.frz (.cons (.kl trivial) (.cons (.kl trivial) (.cons (.kl trivial) (.cons h.v.frz .nil)))))))
theorem lentAV_sz (x : LEnt) : (lentAV x).sz = 7 := by simp [lentAV, AV.sz, AV.szs, Lp.av]
theorem lents_frz {H : Heap} {n : Nat} : ∀ (l : List LEnt), (∀ x ∈ l, x.ok H n) → FrzL H 0 (l.map lentAV) ((l.map (·.e)).map entAV)
  | [], _ => .nil
  | x :: l, h => .cons (h x (by simp)).frz (lents_frz l fun y hy => h y (by simp [hy]))
theorem lentAV_memOK (x : LEnt) : (lentAV x).memOK = true := by simp [lentAV, Lp.av, AV.memOK]
structure LList (H : Heap) (n : Nat) (p : Lp) (l : List LEnt) : Prop where
  lt : p.k < n
  at' : H p.k = some (.arr p.ver 7 p.els)
  len : l.length ≤ p.els.length
  tk : p.els.take l.length = l.map lentAV
  ok : ∀ x ∈ l, x.ok H n
theorem LList.mono {H H' : Heap} {n n' : Nat} {p : Lp} {l : List LEnt} (h : LList H n p l) (hH : ∀ k, k < n → H' k = H k) (hn : n ≤ n') : LList H' n' p l :=
  ⟨Nat.lt_of_lt_of_le h.lt hn, (hH _ h.lt).trans h.at', h.len, h.tk, fun x hx => (h.ok x hx).mono hH hn⟩
theorem LList.nth {H : Heap} {n : Nat} {p : Lp} {l : List LEnt} (h : LList H n p l) {i : Nat} (hi : i < l.length) : nth p.els i = lentAV (l.getD i default) := by
  rw [← nth_map lentAV l i hi, ← h.tk]
  simp [Sx.nth, List.getD, hi]
structure Lp.mine (H : Heap) (lo hi : Nat) (p : Lp) (b : List UInt8) : Prop where
  at' : H p.k = some (.arr p.ver 1 p.els)
  els : p.els = b.map byteAV
  lo : lo ≤ p.k
  hi : p.k < hi
theorem Lp.mine.ok {H : Heap} {lo hi : Nat} {p : Lp} {b : List UInt8} (h : p.mine H lo hi b) : p.ok H hi b := ⟨⟨h.at', by rw [h.els]; simp, by rw [h.els, List.take_of_length_le (by simp)]⟩, h.hi⟩
theorem Lp.mine.mono {H H' : Heap} {lo hi hi' : Nat} {p : Lp} {b : List UInt8} (h : p.mine H lo hi b) (hH : ∀ k, lo ≤ k → k < hi → H' k = H k) (hh : hi ≤ hi') : p.mine H' lo hi' b := ⟨(hH _ h.lo h.hi).trans h.at', h.els, h.lo, Nat.lt_of_lt_of_le h.hi hh⟩
theorem Lp.mine.low {H : Heap} {lo lo' hi : Nat} {p : Lp} {b : List UInt8} (h : p.mine H lo hi b) (hl : lo' ≤ lo) : p.mine H lo' hi b := ⟨h.at', h.els, Nat.le_trans hl h.lo, h.hi⟩
theorem Lp.mine.frz {H : Heap} {lo hi n : Nat} {p : Lp} {b : List UInt8} (h : p.mine H lo hi b) (hn : n ≤ lo) : Frz H n (p.av b.length) (bys b) :=
  .osl h.at' (Nat.le_trans hn h.lo) (by rw [h.els]; simp) (by rw [List.drop_zero, h.els, List.take_of_length_le (by simp)]; exact frzL_kl _ (kls0_bytes b n))
structure LEnt.mine (H : Heap) (lo hi : Nat) (x : LEnt) : Prop where
  r : x.r.mine H lo hi x.e.row
  q : x.q.mine H lo hi x.e.qual
  v : x.v.mine H lo hi x.e.value
  rq : x.r.k < x.q.k
  qv : x.q.k < x.v.k
theorem LEnt.mine.ok {H : Heap} {lo hi : Nat} {x : LEnt} (h : x.mine H lo hi) : x.ok H hi := ⟨h.r.ok, h.q.ok, h.v.ok⟩
theorem LEnt.mine.mono {H H' : Heap} {lo hi hi' : Nat} {x : LEnt} (h : x.mine H lo hi) (hH : ∀ k, lo ≤ k → k < hi → H' k = H k) (hh : hi ≤ hi') : x.mine H' lo hi' := ⟨h.r.mono hH hh, h.q.mono hH hh, h.v.mono hH hh, h.rq, h.qv⟩
theorem LEnt.mine.low {H : Heap} {lo lo' hi : Nat} {x : LEnt} (h : x.mine H lo hi) (hl : lo' ≤ lo) : x.mine H lo' hi := ⟨h.r.low hl, h.q.low hl, h.v.low hl, h.rq, h.qv⟩
theorem LEnt.mine.frz {H : Heap} {lo hi n : Nat} {x : LEnt} (h : x.mine H lo hi) (hn : n ≤ lo) : Frz H n (lentAV x) (entAV x.e) :=
  .agg (.cons (h.r.frz hn) (.cons (.kl trivial) (.cons (h.q.frz hn) (.cons (.kl trivial) (.cons (.kl trivial) (.cons (.kl trivial) (.cons (h.v.frz hn) .nil)))))))
def LEnt.ks (x : LEnt) : List Nat := [x.r.k, x.q.k, x.v.k]
theorem LEnt.mine.in' {H : Heap} {lo hi : Nat} {x : LEnt} (h : x.mine H lo hi) {k : Nat} (hk : k ∈ x.ks) : lo ≤ k ∧ k < hi := by
  simp only [LEnt.ks, List.mem_cons, List.not_mem_nil, or_false] at hk
  rcases hk with rfl | rfl | rfl
  · exact ⟨h.r.lo, h.r.hi⟩
  · exact ⟨h.q.lo, h.q.hi⟩
  · exact ⟨h.v.lo, h.v.hi⟩
theorem LEnt.mine.nodup {H : Heap} {lo hi : Nat} {x : LEnt} (h : x.mine H lo hi) : x.ks.Nodup := by
  have h1 := h.rq; have h2 := h.qv
  simp [LEnt.ks]; omega
structure MineL (H : Heap) (lo hi : Nat) (xs : List LEnt) : Prop where
  all : ∀ x ∈ xs, x.mine H lo hi
  nd : (xs.flatMap LEnt.ks).Nodup
theorem MineL.nil (H : Heap) (lo hi : Nat) : MineL H lo hi [] := ⟨fun _ h => by (cases h), .nil⟩
theorem MineL.mono {H H' : Heap} {lo hi hi' : Nat} {xs : List LEnt} (h : MineL H lo hi xs) (hH : ∀ k, lo ≤ k → k < hi → H' k = H k) (hh : hi ≤ hi') : MineL H' lo hi' xs := ⟨fun x hx => (h.all x hx).mono hH hh, h.nd⟩
theorem MineL.low {H : Heap} {lo lo' hi : Nat} {xs : List LEnt} (h : MineL H lo hi xs) (hl : lo' ≤ lo) : MineL H lo' hi xs := ⟨fun x hx => (h.all x hx).low hl, h.nd⟩
theorem MineL.in' {H : Heap} {lo hi : Nat} {xs : List LEnt} (h : MineL H lo hi xs) {k : Nat} (hk : k ∈ xs.flatMap LEnt.ks) : lo ≤ k ∧ k < hi := by
  obtain ⟨x, hx, hk⟩ := List.mem_flatMap.1 hk
  exact (h.all x hx).in' hk
theorem MineL.perm {H : Heap} {lo hi : Nat} {xs ys : List LEnt} (h : MineL H lo hi xs) (hp : ys.Perm xs) : MineL H lo hi ys :=
  ⟨fun x hx => h.all x (hp.mem_iff.1 hx), (hp.flatMap_right _).nodup_iff.2 h.nd⟩
theorem MineL.snoc {H : Heap} {lo mi hi : Nat} {xs : List LEnt} {x : LEnt} (h : MineL H lo mi xs) (hx : x.mine H mi hi) (hl : lo ≤ mi) (hh : mi ≤ hi) : MineL H lo hi (xs ++ [x]) := by
  refine ⟨fun y hy => ?_, ?_⟩
  · rcases List.mem_append.1 hy with h9 | h9
    · exact (h.all y h9).mono (fun _ _ _ => rfl) hh
    · rw [List.mem_singleton.1 h9]; exact hx.low hl
  · rw [List.flatMap_append, List.nodup_append]
    refine ⟨h.nd, by simpa using hx.nodup, fun a ha b hb => ?_⟩
    have h1 := (h.in' ha).2
    have h2 := (hx.in' (by simpa using hb)).1
    omega
theorem MineL.frz {H : Heap} {lo hi n : Nat} (hn : n ≤ lo) : ∀ {xs : List LEnt}, MineL H lo hi xs → FrzL H n (xs.map lentAV) ((xs.map (·.e)).map entAV)
  | [], _ => .nil
  | x :: xs, h => .cons ((h.all x (by simp)).frz hn) (MineL.frz hn ⟨fun y hy => h.all y (by simp [hy]), by have := h.nd; rw [List.flatMap_cons, List.nodup_append] at this; exact this.2.1⟩)
theorem MineL.ok {H : Heap} {lo hi : Nat} {xs : List LEnt} (h : MineL H lo hi xs) : ∀ x ∈ xs, x.ok H hi := fun x hx => (h.all x hx).ok
structure LEnt.there (H : Heap) (k : Nat) (x : LEnt) : Prop where
  r : x.r.here H x.e.row
  q : x.q.here H x.e.qual
  v : x.v.here H x.e.value
  ne : k ∉ x.ks
theorem LEnt.there.mono {H H' : Heap} {k : Nat} {x : LEnt} (h : x.there H k) (hj : ∀ j, j ≠ k → H' j = H j) : x.there H' k := by
  have h1 := h.ne
  simp only [LEnt.ks, List.mem_cons, List.not_mem_nil, or_false, not_or] at h1
  exact ⟨h.r.mono (hj _ (Ne.symm h1.1)), h.q.mono (hj _ (Ne.symm h1.2.1)), h.v.mono (hj _ (Ne.symm h1.2.2)), h.ne⟩
theorem Lp.here.frz {H : Heap} {p : Lp} {b : List UInt8} (h : p.here H b) : Frz H 0 (p.av b.length) (bys b) :=
  .osl h.at' (Nat.zero_le _) (by have := h.len; omega) (by rw [List.drop_zero, h.tk]; exact frzL_kl _ (kls0_bytes b 0))
theorem LEnt.there.frz {H : Heap} {k : Nat} {x : LEnt} (h : x.there H k) : Frz H 0 (lentAV x) (entAV x.e) :=
  .agg (.cons h.r.frz (.cons (.kl trivial) (.cons h.q.frz (.cons (.kl trivial) (.cons (.kl trivial) (.cons (.kl trivial) (.cons h.v.frz .nil)))))))
structure OwnA (H : Heap) (lo hi : Nat) (ko ver : Nat) (xs : List LEnt) : Prop where
  at' : H ko = some (.arr ver 7 (xs.map lentAV))
  ge : lo ≤ ko
  lt : ko < hi
  mine : MineL H lo hi xs
  ne : ko ∉ xs.flatMap LEnt.ks
theorem OwnA.mono {H H' : Heap} {lo hi hi' ko ver : Nat} {xs : List LEnt} (h : OwnA H lo hi ko ver xs) (hH : ∀ k, lo ≤ k → k < hi → H' k = H k) (hh : hi ≤ hi') : OwnA H' lo hi' ko ver xs :=
  ⟨(hH _ h.ge h.lt).trans h.at', h.ge, Nat.lt_of_lt_of_le h.lt hh, h.mine.mono hH hh, h.ne⟩
theorem OwnA.low {H : Heap} {lo lo' hi ko ver : Nat} {xs : List LEnt} (h : OwnA H lo hi ko ver xs) (hl : lo' ≤ lo) : OwnA H lo' hi ko ver xs := ⟨h.at', Nat.le_trans hl h.ge, h.lt, h.mine.low hl, h.ne⟩
theorem OwnA.frz {H : Heap} {lo hi n ko ver : Nat} {xs : List LEnt} (h : OwnA H lo hi ko ver xs) (hn : n ≤ lo) : Frz H n (.osl ko ver 0 xs.length) (entsAV (xs.map (·.e))) :=
  .osl h.at' (Nat.le_trans hn h.ge) (by simp) (by rw [List.drop_zero, List.take_of_length_le (by simp)]; exact h.mine.frz hn)
def AnsU (H : Heap) (lo hi : Nat) (a : AV) (es : List Ent) : Prop := (a = .nilsl ∧ es = []) ∨ ∃ ko ver xs, a = .osl ko ver 0 xs.length ∧ xs.map (·.e) = es ∧ OwnA H lo hi ko ver xs
theorem AnsU.nil (H : Heap) (lo hi : Nat) : AnsU H lo hi .nilsl [] := .inl ⟨rfl, rfl⟩
theorem AnsU.low {H : Heap} {lo lo' hi : Nat} {a : AV} {es : List Ent} (h : AnsU H lo hi a es) (hl : lo' ≤ lo) : AnsU H lo' hi a es := by
  rcases h with h | ⟨ko, ver, xs, e, h1, h2⟩
  · exact .inl h
  · exact .inr ⟨ko, ver, xs, e, h1, h2.low hl⟩
theorem AnsU.frz {H : Heap} {lo hi n : Nat} {a : AV} {es : List Ent} (h : AnsU H lo hi a es) (hn : n ≤ lo) : Frz H n a (entsAV es) := by
  rcases h with ⟨rfl, rfl⟩ | ⟨ko, ver, xs, rfl, h1, h2⟩
  · exact .nilsl
  · rw [← h1]; exact h2.frz hn
theorem AnsU.strip {H : Heap} {lo hi : Nat} {a : AV} {es : List Ent} (h : AnsU H lo hi a es) : Sx.strip true a = a := by
  rcases h with ⟨rfl, _⟩ | ⟨_, _, _, rfl, _⟩ <;> rfl
def AnsK (n : Nat) (H : Heap) (es : List Ent) (err : Int) (res : ARes) (H' : Heap) (n' : Nat) : Prop := ∃ a, res = .val (.tup [a, .int .i64 err]) ∧ AnsU H' n n' a es ∧ n ≤ n' ∧ ∀ k, k < n → H' k = H k
theorem AnsK.fin {P : Program} {f : FuncId} {args : List AV} {H : Heap} {n : Nat} {es : List Ent} {err : Int} (h : ACalls P f args H n (AnsK n H es err)) : Ret P f args H n (.tup [entsAV es, .int .i64 err]) H n :=
  Ret.fin (h.mono fun res H1 n1 ⟨a, hr, ha, _, hlow⟩ => ⟨_, hr, hlow, .tup (.cons (ha.frz (Nat.le_refl _)) (.cons (.kl trivial) .nil))⟩)
def AnsO (n : Nat) (H : Heap) (es : List Ent) (err : Int) (res : ARes) (H' : Heap) (n' : Nat) : Prop := ∃ ko ver xs, res = .val (.tup [.osl ko ver 0 xs.length, .int .i64 err]) ∧ xs.map (·.e) = es ∧ OwnA H' n n' ko ver xs ∧ n ≤ n' ∧ ∀ k, k < n → H' k = H k
theorem AnsK.own {P : Program} {f : FuncId} {args : List AV} {H : Heap} {n : Nat} {es : List Ent} {err : Int} (h : ACalls P f args H n (AnsK n H es err)) : ACalls P f args H n (AnsO n H es err) := by
  refine h.adopt fun res H1 n1 ⟨a, hr, ha, hn, hlow⟩ => ?_
  rcases ha with ⟨rfl, rfl⟩ | ⟨ko, ver, xs, rfl, h1, h2⟩
  · exact .inr ⟨_, _, 7, hr, Adp.tup (m := [.osl n1 0 0 0, .int .i64 err]) ⟨Adp.nilsl _, Adp.refl _ _, trivial⟩, n1, 0, [], rfl, rfl, ⟨Heap.put_same _ _ _, hn, by omega, MineL.nil _ _ _, by simp⟩, by omega, fun k hk => (Heap.put_ne _ _ (by omega)).trans (hlow k hk)⟩
  · exact .inl ⟨ko, ver, xs, hr, h1, h2, hn, hlow⟩
end Go.Rt
namespace Go.Proofs.Ytijhkfhflpmajaa
open Go Go.Sx Go.Rt Go.Proofs
theorem o_retain_copies (b : List UInt8) (hb : b.length ≤ 140737488355328) (H : Heap) (n : Nat) : Ret Try.prog 81 [bys b] H n (.osl n 0 0 b.length) (H.put n (some (.arr 0 1 (b.map byteAV)))) (n + 1) := by
  refine acalls_of_awp Try.func81 rfl Try.ntmps81 (congrArg Array.toList Try.results81) (by simp) ?_
  simp only [go_sem]
  refine awp_rq zs [0] ?_
  refine awp_reg_app zs [2] 1 rfl (by first | trivial | (show _ < _; decide)) fun K hK => ?_
  try simp only [go_sem, seval, List.length_map]
  repeat (first | (refine And.intro ?_ ?_; · first | exact ⟨.inr trivial, by omega, by omega⟩) | refine peel ?_)
  refine hK _ _ _ ?_; clear hK K
  refine awp_ret ?_
  try simp only [go_sem, seval]
theorem o_retain_copied (e : Ent) (he : e.fits) (H : Heap) (n : Nat) : ACalls Try.prog 67 [entAV e] H n fun res H' n' => ∃ x : LEnt, res = .val (lentAV x) ∧ x.e = e ∧ n ≤ n' ∧ x.mine H' n n' ∧ ∀ k, k < n → H' k = H k := by
  obtain ⟨h1, h2, h3⟩ := he
  refine acalls_of_awp Try.func67 rfl Try.ntmps67 (congrArg Array.toList Try.results67) (by simp) ?_
  simp only [go_sem]
  refine awp_reg zs [1, 2] fun K hK => ?_
  try simp only [go_sem, seval, Nat.add_assoc]
  repeat refine peel ?_
  refine hK _ _ _ ?_; clear hK K
  refine awp_drp rfl zs [1, 2] [.q, .q, .w [3, 4, 6, 7], .q, .q, .w [6, 7, 9], .q, .q, .w [9], .q, .w [], .q, .w [], .q, .w []] [0, 1, 3, 4, 6, 7, 2, 9, 5, 8, 10, 11, 12, 13, 14] [0, 1, 6, 2, 3, 8, 4, 5, 9, 7, 10, 11, 12, 13, 14] (by kernel_rfl) (fun _ _ _ _ _ h => h) fun K hK => ?_
  try simp only [go_sem, seval, Nat.add_assoc]
  repeat refine peel ?_
  refine callK_use Try.func81 rfl rfl rfl ((o_retain_copies e.row h1 _ _)) ?_
  try simp only [go_sem, seval, Nat.add_assoc]
  repeat refine peel ?_
  refine callK_use Try.func81 rfl rfl rfl ((o_retain_copies e.qual h2 _ _)) ?_
  try simp only [go_sem, seval, Nat.add_assoc]
  repeat refine peel ?_
  refine callK_use Try.func81 rfl rfl rfl ((o_retain_copies e.value h3 _ _)) ?_
  try simp only [go_sem, seval, Nat.add_assoc]
  repeat refine peel ?_
  refine hK _ _ _ ?_; clear hK K
  refine awp_reg zs [2] fun K hK => ?_
  try simp only [go_sem, seval, Nat.add_assoc]
  repeat refine peel ?_
  refine hK _ _ _ ?_; clear hK K
  refine awp_ret ?_
  try simp only [go_sem, seval, Nat.add_assoc]
  refine ⟨⟨e, ⟨n + 2, 0, e.row.map byteAV⟩, ⟨n + 3, 0, e.qual.map byteAV⟩, ⟨n + 4, 0, e.value.map byteAV⟩⟩, rfl, rfl, by omega, ⟨⟨?_, rfl, by show n ≤ n + 2; omega, by show n + 2 < n + 5; omega⟩, ⟨?_, rfl, by show n ≤ n + 3; omega, by show n + 3 < n + 5; omega⟩, ⟨?_, rfl, by show n ≤ n + 4; omega, by show n + 4 < n + 5; omega⟩, by show n + 2 < n + 3; omega, by show n + 3 < n + 4; omega⟩, ?_⟩
  · simp [Heap.put]
  · simp [Heap.put]
  · simp [Heap.put]
  · intro k hk
    have h0 : k ≠ n := by omega
    have h1 : ∀ j, k ≠ n + j := fun j => by omega
    simp [h0, h1]
end Go.Proofs.Ytijhkfhflpmajaa
namespace Go.Proofs.Ytijhkfhflpmajaa
open Go Go.Sx Go.Rt Go.Proofs
theorem fits_of {e : Ent} (h : checkE e = 0) : e.fits := by
  unfold checkE at h
  repeat' split at h
  all_goals first | (exact absurd h (by decide)) | skip
  rename_i h1 h2 h3 h4 h5 h6 h7
  have h1 := bout_false (Bool.eq_false_iff.2 h1)
  refine ⟨by omega, ?_, ?_⟩
  · have : ¬ 256 < (e.qual.length : Int) := by
      intro h; apply h3; simp [badQ, h]
    omega
  · have : ¬ 4096 < (e.value.length : Int) := by
      intro h; apply h7; simp [badV, h]
    omega
theorem isKeys (acc : List Ent) : ∀ e ∈ acc.map seqPair, e.1.isKey (.int .i64) = true := by
  intro e he
  obtain ⟨x, _, rfl⟩ := List.mem_map.1 he
  rfl
def ent0 : AV := .agg [.nilsl, .int .i64 0, .nilsl, .int .i64 0, .int .i64 0, .int .i64 0, .nilsl]
def entO : Option Ent → AV
  | some x => entAV x
  | none => ent0
theorem entO_sz (o : Option Ent) : (entO o).sz = 7 := by cases o <;> rfl
theorem entO_memOK (o : Option Ent) : (entO o).memOK = true := by cases o <;> rfl
theorem lookE (o : Option Ent) : lookR true (o.map entAV) (.agg [.nilsl, .int .i64 0, .nilsl, .int .i64 0, .int .i64 0, .int .i64 0, .nilsl]) = .tup [entO o, .bool o.isSome] := by cases o <;> rfl
theorem FrzL.kls {H : Heap} {n : Nat} : ∀ (l : List AV), AV.kls n l → FrzL H n l l
  | [], _ => .nil
  | _ :: l, h => .cons (.kl h.1) (FrzL.kls l h.2)
theorem dd_clash {o : Option Ent} {e : Ent} (h : (bif o.isSome then !sameE (o.getD default) e else false) = true) : ∃ x, o = some x ∧ x ≠ e := by
  cases o with
  | none => simp at h
  | some x => exact ⟨x, rfl, by simpa [sameE] using h⟩
theorem dd_agree {o : Option Ent} {e : Ent} (h : (bif o.isSome then !sameE (o.getD default) e else false) = false) : o = none ∨ o = some e := by
  cases o with
  | none => exact .inl rfl
  | some x => right; simpa [sameE] using h
def lentS (H : Heap) (k : Nat) : SortOf { x : LEnt // x.there H k } := ⟨fun x => lentAV x.1, fun a b => compE a.1.e b.1.e, fun a => lentAV_sz a.1, fun _ => rfl, fun a => lentAV_memOK a.1, fun _ => rfl⟩
theorem cmpC_lent (H : Heap) (k : Nat) : CmpC (lentS H k) k H := fun H' n a b hj =>
  Ret.lend trivial (.cons (a.2.mono hj).frz (.cons (b.2.mono hj).frz .nil)) (c_cell_Compare a.1.e b.1.e _ _)
theorem o_slices_SortStable (k ver : Nat) (xs : List LEnt) (H : Heap) (n : Nat) (hk : k < n) (hH : H k = some (.arr ver 7 (xs.map lentAV))) (hx : ∀ x ∈ xs, x.there H k) (hs : (xs.map (·.e.seq)).Nodup) (hl : xs.length < 576460752303423488) :
    ∃ ys : List LEnt, ys.Perm xs ∧ ys.map (·.e) = stabL ltE (xs.map (·.e)) ∧ Ret Try.prog 68 [.osl k ver 0 xs.length, cmpAV] H n (.tup []) (H.put k (some (.arr ver 7 (ys.map lentAV)))) n := by
  by_cases hnil : xs = []
  · subst hnil
    have h0 := c_slices_SortStable entS k ver [] 0 rfl H n hk hH (cmpC_ent k H) (by omega)
    have h1 : stabL entS.lt [] = [] := List.eq_nil_of_length_eq_zero (by rw [entS_lt, stabL_length]; rfl)
    rw [h1] at h0
    exact ⟨[], .refl _, (List.eq_nil_of_length_eq_zero (by rw [stabL_length]; rfl)).symm, h0⟩
  · obtain ⟨x0, hx0⟩ := List.exists_mem_of_ne_nil xs hnil
    letI : Inhabited { x : LEnt // x.there H k } := ⟨⟨x0, hx x0 hx0⟩⟩
    have e1 : (xs.attachWith _ hx).map (fun a => a.1) = xs := List.attachWith_map_subtype_val _
    have hO : Ord (lentS H k).lt := ⟨fun a b c => ord_ltE.tr a.1.e b.1.e c.1.e, fun a b => ord_ltE.asym a.1.e b.1.e⟩
    obtain ⟨hsrt, hperm⟩ := stabL_ok hO (xs.attachWith _ hx)
    refine ⟨(stabL (lentS H k).lt (xs.attachWith _ hx)).map (fun a => a.1), by have := hperm.map (fun a => a.1); rw [e1] at this; exact this, ?_, ?_⟩
    · refine srt_unique ?_ (stabL_srt _) ?_ ?_
      · rw [List.map_map]; exact List.pairwise_map.2 hsrt
      · refine List.Perm.trans ?_ (stabL_perm _).symm
        have := (hperm.map (fun a => a.1)).map (fun x : LEnt => x.e)
        rw [e1] at this
        exact this
      · have := (hperm.map (fun a => a.1)).map (fun x : LEnt => x.e.seq)
        rw [e1] at this
        rw [List.map_map]
        exact this.nodup_iff.2 hs
    · have h0 := c_slices_SortStable (lentS H k) k ver (xs.attachWith _ hx) xs.length (by simp) H n hk (by rw [hH]; conv => lhs; rw [← e1]
                                                                                                           rw [List.map_map]; rfl) (cmpC_lent H k) hl
      rw [List.map_map]
      exact h0
theorem u_retain_sorted (l : List Ent) (hl : l.length ≤ 1000000000) (hg : ∀ e ∈ l, e.fits) (H : Heap) (n : Nat) :
    ACalls Try.prog 46 [entsAV l] H n (AnsK n H (sortedE l).1 (sortedE l).2) := by
  refine acalls_of_awp Try.func46 rfl Try.ntmps46 (congrArg Array.toList Try.results46) (by simp) ?_
  simp only [go_sem]
  refine awp_rq zs [0] ?_
  refine awp_rq zs [0, 4] ?_
  refine awp_rq zs [0, 4, 5] ?_
  refine awp_seq_k fun K1 hK1 => ?_
  refine awp_adopt_tmp 5 7 rfl ?_
  refine awp_rq zs [4, 5, 11, 12, 13] ?_
  refine awp_block ?_
  refine awp_loop (fun T' H' n' => ∃ (i : Nat) (acc : List Ent) (xs : List LEnt), xs.map (·.e) = acc ∧ i ≤ l.length ∧ acc.length ≤ i ∧ T' = tl [(4, .omap n), (5, .osl (n + 1) acc.length 0 acc.length), (11, .sl 7 (l.map entAV)), (12, .int .i64 l.length), (13, .int .i64 i)] ∧ n + 2 ≤ n' ∧ H' n = some (.map (acc.map seqPair)) ∧ H' (n + 1) = some (.arr acc.length 7 (xs.map lentAV)) ∧ (∀ k, k < n → H' k = H k) ∧ ddE acc (l.drop i) = ddE [] l ∧ MineL H' (n + 2) n' xs ∧ (acc.map (·.seq)).Nodup) (fun T' _ _ => l.length - iv (T' 13)) ?_ ?_
  ·skip
   refine ⟨0, [], [], rfl, Nat.zero_le _, Nat.zero_le _, by rw [List.length_map]; rfl, by omega, ?_, ?_, ?_, rfl, MineL.nil _ _ _, .nil⟩
   · simp [Heap.put]
   · simp [Heap.put]
   · intro k hk; rw [Heap.put_ne _ _ (by omega), Heap.put_ne _ _ (by omega)]
  intro T1 H1 n1
  rintro ⟨i, acc, xs, hxe, hi, hai, rfl, hn, hm, ho, hrest, hd, hmine, hseq⟩
  have hxl : xs.length = acc.length := by rw [← hxe]; simp
  refine awp_rq zs [4, 5, 11, 12, 13, 14] ?_
  refine awp_seq_k fun K2 hK2 => ?_
  refine awp_cnd (fun hb => ?_) (fun hb => ?_)
  ·skip
   have hlt : i < l.length := by simpa using hb
   rw [drop_cons l i hlt, ddE] at hd
   have hmem : l.getD i default ∈ l := by simp [List.getD, List.getElem?_eq_getElem hlt]
   have hfit := hg _ hmem
   have hnth : nth (l.map entAV) i = entAV (l.getD i default) := nth_map entAV l i hlt
   generalize l.getD i default = e at *
   have q1 : (n = n1) = False := by simp; omega
   have q2 : (n + 1 = n1) = False := by simp; omega
   have q3 : (n = n1 + 1) = False := by simp; omega
   have q4 : (n + 1 = n1 + 1) = False := by simp; omega
   have q5 : (n1 = n + 1) = False := by simp; omega
   have q6 : (n1 + 1 = n + 1) = False := by simp; omega
   have q7 : (n1 = n) = False := by simp; omega
   have q8 : (n1 + 1 = n) = False := by simp; omega
   have hrest1 : ∀ (o o' : Option AObj) (k : Nat), k < n → ((H1.put n1 o).put (n1 + 1) o') k = H k := fun o o' k hk => by rw [Heap.put_ne _ _ (by omega), Heap.put_ne _ _ (by omega)]; exact hrest k hk
   refine awp_skip ?_
   try simp only [go_sem, seval]
   refine hK2 _ _ _ ?_
   first | clear hK2 K2 | skip
   refine awp_seq_k fun K3 hK3 => ?_
   refine awp_block ?_
   refine awp_reg zs [4, 5, 7, 11, 12, 13] fun K hK => ?_
   try simp only [go_sem, seval, Int.toNat_natCast, hnth]
   repeat refine peel ?_
   refine hK _ _ _ ?_; clear hK K
   refine awp_reg zs [4, 5, 7, 8, 9, 11, 12, 13] fun K hK => ?_
   try simp only [go_sem, seval, hm, findK_seq, lookE, q1, q2, q3, q4, q5, q6, entO_sz, entO_memOK, List.getD_cons_zero, List.getD_cons_succ]
   repeat (first | (refine And.intro ?_ ?_; · first | exact ⟨rfl, isKeys acc⟩ | exact ⟨rfl, entO_sz _, entO_memOK _⟩) | refine peel ?_)
   refine hK _ _ _ ?_; clear hK K
   refine awp_seq_k fun K4 hK4 => ?_
   refine awp_reg zs [4, 5, 7, 9, 11, 12, 13, 30] fun K hK => ?_
   try simp only [go_sem, seval, q1, q2, q3, q4, q5, q6]
   repeat (first | (refine And.intro ?_ ?_; · first | exact fun _ => ⟨(by cases seqOf acc e.seq <;> rfl), by rw [entO_sz]⟩) | refine peel ?_)
   have hc9 : ∀ H9 n9, (seqOf acc e.seq).isSome = true → Ret Try.prog 66 [entO (seqOf acc e.seq), entAV e] H9 n9 (.bool (sameE ((seqOf acc e.seq).getD default) e)) H9 n9 := fun H9 n9 hg8 => by obtain ⟨x, hx⟩ := Option.isSome_iff_exists.1 hg8; rw [hx]; exact c_retain_same x e _ _
   refine callG_use Try.func66 rfl rfl rfl (fun hg9 => hc9 _ _ (by simpa using hg9)) ?_
   try simp only [go_sem, seval, q1, q2, q3, q4, q5, q6]
   repeat (first | (refine And.intro ?_ ?_; · first | exact fun _ => ⟨(by cases seqOf acc e.seq <;> rfl), by rw [entO_sz]⟩) | refine peel ?_)
   refine hK _ _ _ ?_; clear hK K
   refine awp_cnd (fun hb => ?_) (fun hb => ?_)
   ·skip
    obtain ⟨x, hx, hne⟩ := dd_clash hb
    rw [hx] at hd; simp only [if_neg hne] at hd
    have hs : sortedE l = ([], 31) := by unfold sortedE; rw [← hd]
    refine awp_rq zs [2, 3] ?_
    refine awp_ret ?_
    try simp only [go_sem, seval]
    rw [hs]
    first
    | exact ⟨_, rfl, AnsU.nil _ _ _, by omega, hrest1 _ _⟩
    | (refine ⟨_, rfl, .inr ⟨n + 1, acc.length, ys, by rw [hyp.length_eq, hxl], by rw [hye, hxe], Heap.put_same _ _ _, by omega, by omega, ((hmine.perm hyp).mono (fun k h1 h2 => Heap.put_ne _ _ (by omega)) (Nat.le_refl _)).low (by omega), fun hin => by have := ((hmine.perm hyp).in' hin).1; omega⟩, by omega, fun k hk => (Heap.put_ne _ _ (by omega)).trans (hrest k hk)⟩)
   ·skip
    have hag := dd_agree hb
    refine awp_skip ?_
    try simp only [go_sem, seval]
    refine hK4 _ _ _ ?_
    first | clear hK4 K4 | skip
    refine awp_rq zs [4, 5, 7, 11, 12, 13, 32] ?_
    refine awp_cnd (fun hb => ?_) (fun hb => ?_)
    ·skip
     have hnone : seqOf acc e.seq = none := by cases h9 : seqOf acc e.seq <;> simp_all
     rw [hnone] at hd; simp only at hd
     refine awp_reg zs [4, 5, 7, 11, 12, 13] fun K hK => ?_
     try simp only [go_sem, seval, hm, q1, q2, q3, q4, q5, q6, q7, q8, setK_seq _ _ hnone]
     repeat (first | (refine And.intro ?_ ?_; · first | exact ⟨rfl, isKeys acc⟩) | refine peel ?_)
     refine hK _ _ _ ?_; clear hK K
     have r2 : (0 : Nat) = 0 := rfl
     refine awp_reg1 zs [4, 5, 11, 12, 13] fun K hK => ?_
     try simp only [go_sem, seval, ho, q1, q2, q3, q4, q5, q6, q7, q8, r2]
     repeat (first | (refine And.intro ?_ ?_; · first | exact ⟨rfl, by simp [AV.sz, AV.szs, AV.memOK, lentAV, Lp.av]⟩ | (simp; omega)) | refine peel ?_)
     refine callK_useK (args' := [entAV e]) Try.func67 rfl rfl rfl (o_retain_copied e hfit _ _) ?_ ?_
     rotate_left
     · intro p H' n' h; obtain ⟨x, hx, _⟩ := h; cases hx
     rintro r H2 n2 ⟨x, hr2, hxe2, hn2, hmx, hlow⟩
     cases hr2
     have r2 := (hlow (n + 1) (by omega)).trans ((Heap.put_ne _ _ (by omega)).trans ((Heap.put_ne _ _ (by omega)).trans ((Heap.put_ne _ _ (by omega)).trans ho)))
     have r3 := (hlow n (by omega)).trans (Heap.put_same _ _ _)
     try simp only [go_sem, seval, ho, q1, q2, q3, q4, q5, q6, q7, q8, r2]
     repeat (first | (refine And.intro ?_ ?_; · first | exact ⟨rfl, by simp [AV.sz, AV.szs, AV.memOK, lentAV, Lp.av]⟩ | (simp; omega)) | refine peel ?_)
     refine hK _ _ _ ?_; clear hK K
     try simp only [go_sem, seval]
     refine hK3 _ _ _ ?_
     first | clear hK3 K3 | skip
     refine awp_reg1 zs [4, 5, 11, 12, 13] fun K hK => ?_
     try simp only [go_sem, seval]
     repeat refine peel ?_
     refine hK _ _ _ ?_; clear hK K
     try simp only [go_sem, seval]
     first
     | (refine ⟨⟨i + 1, acc ++ [e], xs ++ [x], by simp [hxe, hxe2], by omega, by simp; omega, by rw [w1 (by omega)]; simp, by omega, ?_, ?_, ?_, hd, ?_, ?_⟩, by rw [w1 (by omega)]; simp; omega⟩
        · first | exact r3 | (rw [← setK_seq acc e hnone]; exact r3)
        · simp [Heap.put, List.take_of_length_le, hxl, lentAV, Lp.av]
        · intro k hk; first | rw [if_neg (by omega)] | rw [Heap.put_ne _ _ (by omega)]
          rw [hlow k (by omega), Heap.put_ne _ _ (by omega)]; exact hrest1 _ _ k hk
        · refine ((hmine.mono (fun k h1 h2 => ?_) (by omega : n1 ≤ n1 + 2)).snoc hmx (by omega) hn2).mono (fun k h1 h2 => Heap.put_ne _ _ (by omega)) (Nat.le_refl _)
          rw [hlow k (by omega), Heap.put_ne _ _ (by omega), Heap.put_ne _ _ (by omega), Heap.put_ne _ _ (by omega)]
        · rw [List.map_append, List.nodup_append]; refine ⟨hseq, by simp, fun a ha b hb9 => ?_⟩
          simp only [List.map_cons, List.map_nil, List.mem_singleton] at hb9
          obtain ⟨y, hy, rfl⟩ := List.mem_map.1 ha
          subst hb9; exact seqOf_none hnone y hy)
     | (refine ⟨⟨i + 1, acc, xs, hxe, by omega, by omega, by rw [w1 (by omega)], by omega, ?_, ?_, ?_, hd, hmine.mono (fun k h1 h2 => by rw [Heap.put_ne _ _ (by omega), Heap.put_ne _ _ (by omega)]) (by omega), hseq⟩, by rw [w1 (by omega)]; simp; omega⟩
        · first | exact hm | (rw [if_neg (by omega), if_neg (by omega)]; exact hm)
        · first | exact ho | (rw [if_neg (by omega), if_neg (by omega)]; exact ho)
        · first | exact hrest1 _ _ | (intro k hk; simp only [Heap.put]; rw [if_neg (by omega), if_neg (by omega)]; exact hrest k hk))
    ·skip
     have hsome : seqOf acc e.seq = some e := by rcases hag with h9 | h9; (rw [h9] at hb; simp at hb); exact h9
     rw [hsome] at hd; simp only [if_true] at hd
     refine awp_skip ?_
     try simp only [go_sem, seval]
     refine hK3 _ _ _ ?_
     first | clear hK3 K3 | skip
     refine awp_reg1 zs [4, 5, 11, 12, 13] fun K hK => ?_
     try simp only [go_sem, seval]
     repeat refine peel ?_
     refine hK _ _ _ ?_; clear hK K
     try simp only [go_sem, seval]
     first
     | (refine ⟨⟨i + 1, acc ++ [e], xs ++ [x], by simp [hxe, hxe2], by omega, by simp; omega, by rw [w1 (by omega)]; simp, by omega, ?_, ?_, ?_, hd, ?_, ?_⟩, by rw [w1 (by omega)]; simp; omega⟩
        · first | exact r3 | (rw [← setK_seq acc e hnone]; exact r3)
        · simp [Heap.put, List.take_of_length_le, hxl, lentAV, Lp.av]
        · intro k hk; first | rw [if_neg (by omega)] | rw [Heap.put_ne _ _ (by omega)]
          rw [hlow k (by omega), Heap.put_ne _ _ (by omega)]; exact hrest1 _ _ k hk
        · refine ((hmine.mono (fun k h1 h2 => ?_) (by omega : n1 ≤ n1 + 2)).snoc hmx (by omega) hn2).mono (fun k h1 h2 => Heap.put_ne _ _ (by omega)) (Nat.le_refl _)
          rw [hlow k (by omega), Heap.put_ne _ _ (by omega), Heap.put_ne _ _ (by omega), Heap.put_ne _ _ (by omega)]
        · rw [List.map_append, List.nodup_append]; refine ⟨hseq, by simp, fun a ha b hb9 => ?_⟩
          simp only [List.map_cons, List.map_nil, List.mem_singleton] at hb9
          obtain ⟨y, hy, rfl⟩ := List.mem_map.1 ha
          subst hb9; exact seqOf_none hnone y hy)
     | (refine ⟨⟨i + 1, acc, xs, hxe, by omega, by omega, by rw [w1 (by omega)], by omega, ?_, ?_, ?_, hd, hmine.mono (fun k h1 h2 => by rw [Heap.put_ne _ _ (by omega), Heap.put_ne _ _ (by omega)]) (by omega), hseq⟩, by rw [w1 (by omega)]; simp; omega⟩
        · first | exact hm | (rw [if_neg (by omega), if_neg (by omega)]; exact hm)
        · first | exact ho | (rw [if_neg (by omega), if_neg (by omega)]; exact ho)
        · first | exact hrest1 _ _ | (intro k hk; simp only [Heap.put]; rw [if_neg (by omega), if_neg (by omega)]; exact hrest k hk))
  ·skip
   have hge : i = l.length := by simp at hb; omega
   rw [hge, List.drop_length, ddE] at hd
   have hs : sortedE l = (stabL ltE acc, 0) := by unfold sortedE; rw [← hd]
   obtain ⟨ys, hyp, hye, hyc⟩ := o_slices_SortStable (n + 1) acc.length xs H1 n1 (by omega) ho (fun x hx => ⟨(hmine.all x hx).r.ok.tohere, (hmine.all x hx).q.ok.tohere, (hmine.all x hx).v.ok.tohere, fun hin => by have := ((hmine.all x hx).in' hin).1; omega⟩) (by rw [← hxe, List.map_map] at hseq; exact hseq) (by omega)
   rw [hxl] at hyc
   refine awp_exit ?_
   try simp only [go_sem, seval]
   refine hK1 _ _ _ ?_
   first | clear hK1 K1 | skip
   refine awp_reg zs [5] fun K hK => ?_
   try simp only [go_sem, seval]
   repeat refine peel ?_
   refine callK_use Try.func68 rfl rfl rfl (hyc) ?_
   try simp only [go_sem, seval]
   repeat refine peel ?_
   refine hK _ _ _ ?_; clear hK K
   refine awp_rq zs [2, 3] ?_
   refine awp_ret ?_
   try simp only [go_sem, seval]
   rw [hs]
   first
   | exact ⟨_, rfl, AnsU.nil _ _ _, by omega, hrest1 _ _⟩
   | (refine ⟨_, rfl, .inr ⟨n + 1, acc.length, ys, by rw [hyp.length_eq, hxl], by rw [hye, hxe], Heap.put_same _ _ _, by omega, by omega, ((hmine.perm hyp).mono (fun k h1 h2 => Heap.put_ne _ _ (by omega)) (Nat.le_refl _)).low (by omega), fun hin => by have := ((hmine.perm hyp).in' hin).1; omega⟩, by omega, fun k hk => (Heap.put_ne _ _ (by omega)).trans (hrest k hk)⟩)
theorem c_retain_sorted (l : List Ent) (hl : l.length ≤ 1000000000) (hg : ∀ e ∈ l, e.fits) (H : Heap) (n : Nat) :
    Ret Try.prog 46 [entsAV l] H n (.tup [entsAV (sortedE l).1, .int .i64 (sortedE l).2]) H n := AnsK.fin (u_retain_sorted l hl hg H n)
theorem badsE_fits (s : List Fml) : ∀ (l : List Ent), badsE s l = 0 → ∀ e ∈ l, checkedE s e = 0 := by
  intro l
  induction l with
  | nil => intro _ e he; cases he
  | cons x l ih =>
    intro h e he
    rw [badsE] at h
    split at h
    · rename_i h1; exact absurd h h1
    · rename_i h1
      rcases List.mem_cons.1 he with rfl | he
      · simpa using h1
      · exact ih h e he
theorem checkedE_zero {s : List Fml} {e : Ent} (h : checkedE s e = 0) : checkE e = 0 ∧ e.fam < s.length := by
  unfold checkedE at h
  split at h
  · rename_i h1; exact absurd h h1
  · rename_i h1
    split at h
    · exact absurd h (by decide)
    · rename_i h2
      exact ⟨by simpa using h1, by omega⟩
theorem c_retain_prepare (s : List Fml) (clock : Int) (times : List Int) (ht : times.length ≤ 1048576) (k : Int) (l : List Ent) (hl : l.length ≤ 1000000000) (H : Heap) (n : Nat) :
    Ret Try.prog 42 [schAV s, .int .i64 clock, intsAV times, .int .i64 k, entsAV l] H n (.tup [entsAV (prepE s clock times k l).1, .int .i64 (prepE s clock times k l).2]) H n := by
  refine Ret.fin ?_
  refine acalls_of_awp Try.func42 rfl Try.ntmps42 (congrArg Array.toList Try.results42) (by simp) ?_
  simp only [go_sem]
  refine awp_rq zs [1, 2, 3, 4, 5] ?_
  refine awp_seq_k fun K1 hK1 => ?_
  refine awp_reg zs [4, 5, 12] fun K hK => ?_
  try simp only [go_sem, seval]
  repeat refine peel ?_
  refine callK_use Try.func49 rfl rfl rfl ((c_retain_bounds s clock times k ht _ _)) ?_
  try simp only [go_sem, seval]
  repeat refine peel ?_
  refine hK _ _ _ ?_; clear hK K
  refine awp_rq zs [4, 5, 12, 22] ?_
  refine awp_cnd (fun hb => ?_) (fun hb => ?_)
  ·skip
   have hb0 : boundsE s clock times k ≠ 0 := by simpa using hb
   have hp : prepE s clock times k l = ([], boundsE s clock times k) := by unfold prepE; rw [if_pos hb0]
   refine awp_rq zs [10, 11] ?_
   refine awp_ret ?_
   try simp only [go_sem, seval]
   rw [hp]
   refine ⟨_, rfl, ?_, ?_⟩
   · intro k hk; have h1 : k ≠ n := by omega
     have h2 : ∀ j, n + 1 ≤ j → k ≠ j := fun j hj => by omega
     first | (simp only [Heap.put, h1, if_false]; done) | exact hrest k hk | (rw [if_neg (by omega)]; exact hrest k hk)
   · first | exact .tup (.cons .nilsl (.cons (.kl trivial) .nil)) | exact .kl ⟨kls_ents _ _, trivial, trivial⟩
  ·skip
   have hb0 : ¬ boundsE s clock times k ≠ 0 := by simpa using hb
   refine awp_skip ?_
   try simp only [go_sem, seval]
   refine hK1 _ _ _ ?_
   first | clear hK1 K1 | skip
   refine awp_seq_k fun K2 hK2 => ?_
   refine awp_rq zs [4, 5, 24, 25, 26] ?_
   refine awp_block ?_
   refine awp_loop (fun T' H' n' => ∃ (i : Nat), i ≤ l.length ∧ T' = tl [(4, .sl 7 (l.map entAV)), (5, .loc n 0 0 0 []), (24, .sl 7 (l.map entAV)), (25, .int .i64 l.length), (26, .int .i64 i)] ∧ n + 1 ≤ n' ∧ H' n = some (.arr 0 1 [schAV s]) ∧ (∀ k, k < n → H' k = H k) ∧ badsE s (l.drop i) = badsE s l) (fun T' _ _ => l.length - iv (T' 26)) ?_ ?_
   ·skip
    refine ⟨0, Nat.zero_le _, by rw [List.length_map]; rfl, by omega, ?_, ?_, rfl⟩
    · simp [Heap.put, schAV]
    · intro k hk; rw [Heap.put_ne _ _ (by omega)]
   intro T1 H1 n1
   rintro ⟨i, hi, rfl, hn, hsc, hrest, hd⟩
   refine awp_rq zs [4, 5, 24, 25, 26, 27] ?_
   refine awp_seq_k fun K3 hK3 => ?_
   refine awp_cnd (fun hb => ?_) (fun hb => ?_)
   ·skip
    have hlt : i < l.length := by simpa using hb
    rw [drop_cons l i hlt, badsE] at hd
    have hnth : nth (l.map entAV) i = entAV (l.getD i default) := nth_map entAV l i hlt
    generalize l.getD i default = e at *
    have q1 : (n = n1) = False := by simp; omega
    have q2 : (n1 = n) = False := by simp; omega
    refine awp_skip ?_
    try simp only [go_sem, seval]
    refine hK3 _ _ _ ?_
    first | clear hK3 K3 | skip
    refine awp_seq_k fun K4 hK4 => ?_
    refine awp_block ?_
    refine awp_reg zs [4, 5, 14, 24, 25, 26] fun K hK => ?_
    try simp only [go_sem, seval, Int.toNat_natCast, hnth]
    repeat refine peel ?_
    refine hK _ _ _ ?_; clear hK K
    refine awp_reg zs [4, 5, 15, 24, 25, 26] fun K hK => ?_
    try simp only [go_sem, seval, hsc, q1, q2]
    repeat refine peel ?_
    refine callK_use Try.func59 rfl rfl rfl ((c_retain_checked s e _ _)) ?_
    try simp only [go_sem, seval, hsc, q1, q2]
    repeat refine peel ?_
    refine hK _ _ _ ?_; clear hK K
    refine awp_rq zs [4, 5, 15, 24, 25, 26, 34] ?_
    refine awp_cnd (fun hb => ?_) (fun hb => ?_)
    ·skip
     have hne : checkedE s e ≠ 0 := by simpa using hb
     rw [if_pos hne] at hd
     have hp : prepE s clock times k l = ([], checkedE s e) := by unfold prepE; rw [if_neg hb0, ← hd, if_pos hne]
     refine awp_rq zs [10, 11] ?_
     refine awp_ret ?_
     try simp only [go_sem, seval]
     rw [hp]
     refine ⟨_, rfl, ?_, ?_⟩
     · intro k hk; have h1 : k ≠ n := by omega
       have h2 : ∀ j, n + 1 ≤ j → k ≠ j := fun j hj => by omega
       first | (simp only [Heap.put, h1, if_false]; done) | exact hrest k hk | (rw [if_neg (by omega)]; exact hrest k hk)
     · first | exact .tup (.cons .nilsl (.cons (.kl trivial) .nil)) | exact .kl ⟨kls_ents _ _, trivial, trivial⟩
    ·skip
     have hne : ¬ checkedE s e ≠ 0 := by simpa using hb
     rw [if_neg hne] at hd
     refine awp_skip ?_
     try simp only [go_sem, seval]
     refine hK4 _ _ _ ?_
     first | clear hK4 K4 | skip
     refine awp_reg1 zs [4, 5, 24, 25, 26] fun K hK => ?_
     try simp only [go_sem, seval]
     repeat refine peel ?_
     refine hK _ _ _ ?_; clear hK K
     try simp only [go_sem, seval]
     refine ⟨⟨i + 1, by omega, by rw [w1 (by omega)], by omega, ?_, ?_, hd⟩, by rw [w1 (by omega)]; simp; omega⟩
     · simp [Heap.put, q1, hsc, schAV]
     · intro k hk; have h1 : k ≠ n1 := by omega
       simp only [Heap.put, h1, if_false]; exact hrest k hk
   ·skip
    have hge : i = l.length := by simp at hb; omega
    rw [hge, List.drop_length, badsE] at hd
    have hp : prepE s clock times k l = sortedE l := by unfold prepE; rw [if_neg hb0, ← hd]; simp
    refine awp_exit ?_
    try simp only [go_sem, seval]
    refine hK2 _ _ _ ?_
    first | clear hK2 K2 | skip
    refine awp_reg zs [10, 11] fun K hK => ?_
    try simp only [go_sem, seval]
    repeat refine peel ?_
    refine callK_use Try.func46 rfl rfl rfl ((c_retain_sorted l hl (fun e he => fits_of (checkedE_zero (badsE_fits s l hd.symm e he)).1) _ _)) ?_
    try simp only [go_sem, seval]
    repeat refine peel ?_
    refine hK _ _ _ ?_; clear hK K
    refine awp_ret ?_
    try simp only [go_sem, seval]
    rw [hp]
    refine ⟨_, rfl, ?_, ?_⟩
    · intro k hk; have h1 : k ≠ n := by omega
      have h2 : ∀ j, n + 1 ≤ j → k ≠ j := fun j hj => by omega
      first | (simp only [Heap.put, h1, if_false]; done) | exact hrest k hk | (rw [if_neg (by omega)]; exact hrest k hk)
    · first | exact .tup (.cons .nilsl (.cons (.kl trivial) .nil)) | exact .kl ⟨kls_ents _ _, trivial, trivial⟩
end Go.Proofs.Ytijhkfhflpmajaa
namespace Go.Proofs.Ytijhkfhflpmajaa
open Go Go.Sx Go.Rt Go.Proofs
def keptAV (kw ko : Nat) (s : KSt) : AV := .agg [.bool s.major, .int .i64 s.low, .osl ko s.out.length 0 s.out.length, .agg [.int .i64 s.older, .int .i64 s.masked, .int .i64 s.expired, .int .i64 s.above, .int .i64 s.marks], .loc kw 0 0 0 []]
structure KSep (kw kt ko lo : Nat) : Prop where
  a : kw ≠ kt
  b : kw ≠ ko
  c : kt ≠ ko
  d : kw < lo
  e : kt < lo
  f : ko < lo
def outAt (H : Heap) (n ko lo : Nat) (out : List Ent) : Prop := ∃ xs : List LEnt, xs.map (·.e) = out ∧ H ko = some (.arr xs.length 7 (xs.map lentAV)) ∧ MineL H lo n xs
theorem outAt.mono {H H' : Heap} {n n' ko lo : Nat} {out : List Ent} (h : outAt H n ko lo out) (h1 : H' ko = H ko) (h2 : ∀ k, lo ≤ k → k < n → H' k = H k) (hn : n ≤ n') : outAt H' n' ko lo out := by
  obtain ⟨xs, e, a, m⟩ := h
  exact ⟨xs, e, h1.trans a, m.mono h2 hn⟩
def keptTk (kw kt ko lo : Nat) (h : KSep kw kt ko lo) : Tk Try.prog where
  σ := KSt
  kw := kw
  recv := .loc kt 0 0 0 []
  g := 60
  o := 61
  m := 62
  fg := ⟨_, Try.func60, rfl, rfl⟩
  fo := ⟨_, Try.func61, rfl, rfl⟩
  fm := ⟨_, Try.func62, rfl, rfl⟩
  keys := fun k => k = kt ∨ k = ko
  kwn := by simp [h.a, h.b]
  holds := fun s H n => lo ≤ n ∧ H kt = some (.arr 0 9 [keptAV kw ko s]) ∧ outAt H n ko lo s.out
  ext := fun s H H' n n' hn hk ⟨a, c, d⟩ => ⟨by omega, (hk kt (Nat.lt_of_lt_of_le h.e a) (Ne.symm h.a)).trans c, d.mono (hk ko (Nat.lt_of_lt_of_le h.f a) (Ne.symm h.b)) (fun k h1 h2 => hk k h2 (by have := h.d; omega)) hn⟩
  grp := keptG
  old := keptO
  mrk := keptM
section
variable {kw kt ko lo : Nat} {h : KSep kw kt ko lo} {w : Wlk} {H H1 : Heap} {n n1 : Nat}
theorem kept_left (hlo : lo ≤ n) (st' : KSt) (hn : n ≤ n1) (hw : H1 kw = some (.arr 0 25 [walkAV (keptTk kw kt ko lo h) w])) (hto : outAt H1 n1 ko lo st'.out)
    (hrest : ∀ k, k < n → k ≠ kw → k ≠ kt → k ≠ ko → H1 k = H k) : LeftU (keptTk kw kt ko lo h) H n w st' (.val (.tup [])) (H1.put kt (some (.arr 0 9 [keptAV kw ko st']))) n1 :=
  ⟨rfl, hn, (Heap.put_ne _ _ h.a).trans hw, ⟨by omega, by simp [Heap.put], hto.mono (Heap.put_ne _ _ (Ne.symm h.c)) (fun k h1 h2 => Heap.put_ne _ _ (by have := h.e; omega)) (Nat.le_refl _)⟩, fun k hk h1 h2 => by
    have h3 : k ≠ kt := fun e => h2 (.inl e)
    have h4 : k ≠ ko := fun e => h2 (.inr e)
    exact (Heap.put_ne _ _ h3).trans (hrest k hk h1 h3 h4)⟩
theorem kept_app (hlo : lo ≤ n) (st : KSt) (xs : List LEnt) (x : LEnt) (hxe : xs.map (·.e) = st.out) (hm : MineL H lo n xs) (hx : x.mine H1 n n1) (hn : n ≤ n1) (hw : H1 kw = some (.arr 0 25 [walkAV (keptTk kw kt ko lo h) w]))
    (hrest : ∀ k, k < n → H1 k = H k) :
    LeftU (keptTk kw kt ko lo h) H n w { st with out := st.out ++ [x.e] } (.val (.tup []))
      ((H1.put ko (some (.arr (st.out.length + 1) 7 (List.take st.out.length (xs.map lentAV) ++ [lentAV x])))).put kt (some (.arr 0 9 [.agg [.bool st.major, .int .i64 st.low, .osl ko (st.out.length + 1) 0 (st.out.length + 1), .agg [.int .i64 st.older, .int .i64 st.masked, .int .i64 st.expired, .int .i64 st.above, .int .i64 st.marks], .loc kw 0 0 0 []]]))) n1 := by
  have hl : xs.length = st.out.length := by rw [← hxe]; simp
  have := kept_left (h := h) (w := w) (H := H) (H1 := H1.put ko (some (.arr (st.out.length + 1) 7 (List.take st.out.length (xs.map lentAV) ++ [lentAV x])))) (n1 := n1) hlo { st with out := st.out ++ [x.e] } hn
    ((Heap.put_ne _ _ h.b).trans hw) ⟨xs ++ [x], by simp [hxe], by simp [Heap.put, hl, List.take_of_length_le], ((hm.mono (fun k _ h2 => hrest k h2) (Nat.le_refl _)).snoc hx hlo hn).mono (fun k h1 h2 => Heap.put_ne _ _ (by have := h.f; omega)) (Nat.le_refl _)⟩ (fun k hk h1 h2 h3 => (Heap.put_ne _ _ h3).trans (hrest k hk))
  simpa [keptAV] using this
end
theorem kept_older (kw kt ko lo : Nat) (h : KSep kw kt ko lo) (w : Wlk) (st : KSt) (H : Heap) (n : Nat) (ha : Ahead (keptTk kw kt ko lo h) H n w st) (hok : st.ok) :
    ACalls Try.prog 61 [.loc kt 0 0 0 []] H n (LeftU (keptTk kw kt ko lo h) H n w (keptO st)) := by
  obtain ⟨hkw, hkeys, hw, hlo, htk, hto⟩ := ha
  have hwr : IntKind.i64.wrap (st.older + 1) = st.older + 1 := by obtain ⟨h1, h2, h3, h4, h5, h6⟩ := hok; exact w64 (by omega) (by omega)
  have ht := htk
  simp only [keptAV] at ht
  refine acalls_of_awp Try.func61 rfl Try.ntmps61 (congrArg Array.toList Try.results61) (by simp) ?_
  simp only [go_sem]
  refine awp_reg1 zs [] fun K hK => ?_
  try simp only [go_sem, seval, ht, hwr]
  repeat refine peel ?_
  refine hK _ _ _ ?_; clear hK K
  try simp only [go_sem, seval, ht, hwr]
  try simp only [go_sem, seval, ht, hwr]
  exact kept_left hlo (keptO st) (Nat.le_refl _) hw hto (fun k _ _ _ _ => rfl)
theorem kept_mark (kw kt ko lo : Nat) (h : KSep kw kt ko lo) (w : Wlk) (st : KSt) (e : Ent) (b : Bool) (H : Heap) (n : Nat) (ha : Ahead (keptTk kw kt ko lo h) H n w st) (hok : st.ok) (he : e.fits) :
    ACalls Try.prog 62 [.loc kt 0 0 0 [], entAV e, .bool b] H n (LeftU (keptTk kw kt ko lo h) H n w (keptM st e b)) := by
  obtain ⟨hkw, hkeys, hw, hlo, htk, hto0⟩ := ha
  obtain ⟨xs, hxe, hto, hm⟩ := id hto0
  have hxl : xs.length = st.out.length := by rw [← hxe]; simp
  rw [hxl] at hto
  have hkt : kt < n := hkeys kt (.inl rfl)
  have hko : ko < n := hkeys ko (.inr rfl)
  have hkw' : kw < n := hkw
  have hwr : IntKind.i64.wrap (st.marks + 1) = st.marks + 1 := by obtain ⟨h1, h2, h3, h4, h5, h6⟩ := hok; exact w64 (by omega) (by omega)
  have ht := htk
  simp only [keptAV] at ht
  have hlen : (st.out.length + 1) * 104 ≤ 140737488355328 := by obtain ⟨h1, h2, h3, h4, h5, h6⟩ := hok; omega
  have q1 : (kt = n) = False := by simp; omega
  have q2 : (ko = n) = False := by simp; omega
  have q3 : (n = kt) = False := by simp; omega
  have q4 : (n = ko) = False := by simp; omega
  have q5 : (kt = ko) = False := by simp [h.c]
  have q6 : (ko = kt) = False := by simp [Ne.symm h.c]
  have r1 : (0 : Nat) = 0 := rfl
  have r2 : (0 : Nat) = 0 := rfl
  refine acalls_of_awp Try.func62 rfl Try.ntmps62 (congrArg Array.toList Try.results62) (by simp) ?_
  simp only [go_sem]
  refine awp_reg zs [0, 2, 4] fun K hK => ?_
  try simp only [go_sem, seval, ht, hto, hwr, q1, q2, q3, q4, q5, q6, r1, r2]
  repeat refine peel ?_
  refine hK _ _ _ ?_; clear hK K
  refine awp_seq_k fun K1 hK1 => ?_
  refine awp_drw rfl zs [0, 4, 22] [.m, .q, .m, .m, .q, .q, .q, .m, .q, .q, .m, .q, .q, .q, .q, .q, .q] (by kernel_rfl) (fun _ _ _ _ _ h => h) fun K hK => ?_
  try simp only [go_sem, seval, ht, hto, hwr, q1, q2, q3, q4, q5, q6, r1, r2]
  repeat refine peel ?_
  refine hK _ _ _ ?_; clear hK K
  refine awp_cnd (fun hb => ?_) (fun hb => ?_)
  ·skip
   have hc : b = false ∨ st.major = true ∧ e.ts ≤ st.low := by cases b <;> cases h1 : st.major <;> simp_all
   refine awp_reg zs [] fun K hK => ?_
   try simp only [go_sem, seval, ht, hto, hwr, q1, q2, q3, q4, q5, q6, r1, r2]
   repeat refine peel ?_
   refine hK _ _ _ ?_; clear hK K
   refine awp_ret ?_
   try simp only [go_sem, seval, ht, hto, hwr, q1, q2, q3, q4, q5, q6, r1, r2]
   have g1 : ∀ (o : Option AObj), (H.put n o) kw = H kw := fun o => Heap.put_ne _ _ (by omega)
   have g2 : ∀ (o : Option AObj) k, k < n → (H.put n o) k = H k := fun o k hk => Heap.put_ne _ _ (by omega)
   first
   | (rw [show keptM st e b = { st with marks := st.marks + 1 } by simp [keptM, hc]]
      exact kept_left hlo { st with marks := st.marks + 1 } (by omega) ((g1 _).trans hw) (hto0.mono (g2 _ ko hko) (fun k _ h2 => g2 _ k h2) (by omega)) (fun k hk _ _ _ => g2 _ k hk))
   | (rw [show keptM st e b = { st with out := st.out ++ [x.e] } by simp only [keptM]; rw [if_neg hc, hxe2]]
      exact kept_app hlo st xs x hxe hm (hmx.low (by omega)) (by omega) ((hlow kw (by omega)).trans ((g1 _).trans hw)) (fun k hk => (hlow k (by omega)).trans (g2 _ k hk)))
  ·skip
   have hc : ¬ (b = false ∨ st.major = true ∧ e.ts ≤ st.low) := by cases b <;> cases h1 : st.major <;> simp_all
   refine awp_skip ?_
   try simp only [go_sem, seval, ht, hto, hwr, q1, q2, q3, q4, q5, q6, r1, r2]
   refine hK1 _ _ _ ?_
   first | clear hK1 K1 | skip
   refine awp_drp1 rfl zs [] [.m, .m, .q, .q, .q, .q, .w [2, 3, 4], .q, .w [], .q, .q, .w []] [0, 1, 2, 3, 4, 5, 6, 7, 8, 9, 10, 11] [0, 1, 2, 3, 4, 5, 6, 7, 8, 9, 10, 11] (by kernel_rfl) (fun _ _ _ _ _ h => h) fun K hK => ?_
   try simp only [go_sem, seval, ht, hto, hwr, q1, q2, q3, q4, q5, q6, r1, r2]
   repeat (first | (refine And.intro ?_ ?_; · first | exact ⟨rfl, by simp [AV.sz, AV.szs, AV.memOK, lentAV, Lp.av]⟩ | (simp; omega)) | refine peel ?_)
   refine callK_useK (args' := [entAV e]) Try.func67 rfl rfl rfl (o_retain_copied e he _ _) ?_ ?_
   rotate_left
   · intro p H' n' h; obtain ⟨x, hx, _⟩ := h; cases hx
   rintro r H2 n2 ⟨x, hr2, hxe2, hn2, hmx, hlow⟩
   cases hr2
   have r1 := (hlow kt (by omega)).trans ((Heap.put_ne _ _ (by omega)).trans ht)
   have r2 := (hlow ko (by omega)).trans ((Heap.put_ne _ _ (by omega)).trans hto)
   try simp only [go_sem, seval, ht, hto, hwr, q1, q2, q3, q4, q5, q6, r1, r2]
   repeat (first | (refine And.intro ?_ ?_; · first | exact ⟨rfl, by simp [AV.sz, AV.szs, AV.memOK, lentAV, Lp.av]⟩ | (simp; omega)) | refine peel ?_)
   refine hK _ _ _ ?_; clear hK K
   try simp only [go_sem, seval, ht, hto, hwr, q1, q2, q3, q4, q5, q6, r1, r2]
   try simp only [go_sem, seval, ht, hto, hwr, q1, q2, q3, q4, q5, q6, r1, r2]
   have g1 : ∀ (o : Option AObj), (H.put n o) kw = H kw := fun o => Heap.put_ne _ _ (by omega)
   have g2 : ∀ (o : Option AObj) k, k < n → (H.put n o) k = H k := fun o k hk => Heap.put_ne _ _ (by omega)
   first
   | (rw [show keptM st e b = { st with marks := st.marks + 1 } by simp [keptM, hc]]
      exact kept_left hlo { st with marks := st.marks + 1 } (by omega) ((g1 _).trans hw) (hto0.mono (g2 _ ko hko) (fun k _ h2 => g2 _ k h2) (by omega)) (fun k hk _ _ _ => g2 _ k hk))
   | (rw [show keptM st e b = { st with out := st.out ++ [x.e] } by simp only [keptM]; rw [if_neg hc, hxe2]]
      exact kept_app hlo st xs x hxe hm (hmx.low (by omega)) (by omega) ((hlow kw (by omega)).trans ((g1 _).trans hw)) (fun k hk => (hlow k (by omega)).trans (g2 _ k hk)))
theorem kept_group (kw kt ko lo : Nat) (h : KSep kw kt ko lo) (w : Wlk) (st : KSt) (d : Dec) (H : Heap) (n : Nat) (ha : Ahead (keptTk kw kt ko lo h) H n w st) (hok : st.ok) (hf0 : 0 ≤ d.e.fam) (hf1 : d.e.fam < w.s.length) (he : d.e.fits) :
    ACalls Try.prog 60 [.loc kt 0 0 0 [], decAV d] H n (LeftU (keptTk kw kt ko lo h) H n w (keptG w.s st d)) := by
  obtain ⟨hkw, hkeys, hw, hlo, htk, hto0⟩ := ha
  obtain ⟨xs, hxe, hto, hm⟩ := id hto0
  have hxl : xs.length = st.out.length := by rw [← hxe]; simp
  rw [hxl] at hto
  have hkt : kt < n := hkeys kt (.inl rfl)
  have hko : ko < n := hkeys ko (.inr rfl)
  have hkw' : kw < n := hkw
  obtain ⟨k1, k2, k3, k4, k5, k6⟩ := hok
  have hwr1 : IntKind.i64.wrap (st.marks + 1) = st.marks + 1 := w64 (by omega) (by omega)
  have hwr2 : IntKind.i64.wrap (st.masked + 1) = st.masked + 1 := w64 (by omega) (by omega)
  have hwr3 : IntKind.i64.wrap (st.expired + 1) = st.expired + 1 := w64 (by omega) (by omega)
  have hwr4 : IntKind.i64.wrap (st.above + 1) = st.above + 1 := w64 (by omega) (by omega)
  have ht := htk
  have hww := hw
  simp only [keptAV] at ht
  simp only [walkAV, tkAV] at hww
  have hww : H kw = _ := hww
  have hlen : (st.out.length + 1) * 104 ≤ 140737488355328 := by omega
  have q1 : (kt = n) = False := by simp; omega
  have q2 : (ko = n) = False := by simp; omega
  have q3 : (n = kt) = False := by simp; omega
  have q4 : (n = ko) = False := by simp; omega
  have q5 : (kt = ko) = False := by simp [h.c]
  have q6 : (ko = kt) = False := by simp [Ne.symm h.c]
  have q7 : (kw = n) = False := by simp; omega
  have r1 : (0 : Nat) = 0 := rfl
  have r2 : (0 : Nat) = 0 := rfl
  have r3 : (0 : Nat) = 0 := rfl
  have r4 : (0 : Nat) = 0 := rfl
  have r5 : (0 : Nat) = 0 := rfl
  have r6 : (0 : Nat) = 0 := rfl
  have r7 : (0 : Nat) = 0 := rfl
  have r8 : (0 : Nat) = 0 := rfl
  have r9 : (0 : Nat) = 0 := rfl
  have r10 : (0 : Nat) = 0 := rfl
  have hnth : nth (w.s.map famAV) d.e.fam.toNat = famAV (famAt w.s d.e.fam) := nth_map famAV _ _ (by omega)
  refine acalls_of_awp Try.func60 rfl Try.ntmps60 (congrArg Array.toList Try.results60) (by simp) ?_
  simp only [go_sem]
  refine awp_reg zs [0, 3] fun K hK => ?_
  try simp only [go_sem, seval, ht, hto, hww, hwr1, hwr2, hwr3, hwr4, q1, q2, q3, q4, q5, q6, q7, hnth, r1, r2, r3, r4, r5, r6, r7, r8, r9, r10]
  repeat refine peel ?_
  refine hK _ _ _ ?_; clear hK K
  refine awp_block ?_
  refine awp_reg zs [0, 3, 17] fun K hK => ?_
  try simp only [go_sem, seval, ht, hto, hww, hwr1, hwr2, hwr3, hwr4, q1, q2, q3, q4, q5, q6, q7, hnth, r1, r2, r3, r4, r5, r6, r7, r8, r9, r10]
  repeat refine peel ?_
  refine hK _ _ _ ?_; clear hK K
  refine awp_cnd (fun hb => ?_) (fun hb => ?_)
  ·skip
   have c1 : d.masked = true := hb
   refine awp_reg1 zs [] fun K hK => ?_
   try simp only [go_sem, seval, ht, hto, hww, hwr1, hwr2, hwr3, hwr4, q1, q2, q3, q4, q5, q6, q7, hnth, r1, r2, r3, r4, r5, r6, r7, r8, r9, r10]
   repeat refine peel ?_
   refine hK _ _ _ ?_; clear hK K
   try simp only [go_sem, seval, ht, hto, hww, hwr1, hwr2, hwr3, hwr4, q1, q2, q3, q4, q5, q6, q7, hnth, r1, r2, r3, r4, r5, r6, r7, r8, r9, r10]
   try simp only [go_sem, seval, ht, hto, hww, hwr1, hwr2, hwr3, hwr4, q1, q2, q3, q4, q5, q6, q7, hnth, r1, r2, r3, r4, r5, r6, r7, r8, r9, r10]
   have g1 : ∀ (o : Option AObj), (H.put n o) kw = H kw := fun o => Heap.put_ne _ _ (by omega)
   have g2 : ∀ (o : Option AObj) k, k < n → (H.put n o) k = H k := fun o k hk => Heap.put_ne _ _ (by omega)
   first
   | (rw [show keptG w.s st d = { st with masked := st.masked + 1 } by simp [keptG, *]]
      exact kept_left hlo { st with masked := st.masked + 1 } (by omega) ((g1 _).trans hw) (hto0.mono (g2 _ ko hko) (fun k _ h2 => g2 _ k h2) (by omega)) (fun k hk _ _ _ => g2 _ k hk))
   | (rw [show keptG w.s st d = { st with expired := st.expired + 1 } by simp [keptG, *]]
      exact kept_left hlo { st with expired := st.expired + 1 } (by omega) ((g1 _).trans hw) (hto0.mono (g2 _ ko hko) (fun k _ h2 => g2 _ k h2) (by omega)) (fun k hk _ _ _ => g2 _ k hk))
   | (rw [show keptG w.s st d = { st with marks := st.marks + 1 } by simp [keptG, *]]
      exact kept_left hlo { st with marks := st.marks + 1 } (by omega) ((g1 _).trans hw) (hto0.mono (g2 _ ko hko) (fun k _ h2 => g2 _ k h2) (by omega)) (fun k hk _ _ _ => g2 _ k hk))
   | (rw [show keptG w.s st d = { st with above := st.above + 1 } by simp [keptG, *]]
      exact kept_left hlo { st with above := st.above + 1 } (by omega) ((g1 _).trans hw) (hto0.mono (g2 _ ko hko) (fun k _ h2 => g2 _ k h2) (by omega)) (fun k hk _ _ _ => g2 _ k hk))
   | (rw [show keptG w.s st d = { st with out := st.out ++ [x.e] } by rw [hxe2]; unfold keptG; rw [if_neg (by simp [c1]), if_neg (by simp [c2]), if_neg c3, if_pos c4]]
      exact kept_app hlo st xs x hxe hm (hmx.low (by omega)) (by omega) ((hlow kw (by omega)).trans ((g1 _).trans hw)) (fun k hk => (hlow k (by omega)).trans (g2 _ k hk)))
   | (rw [show keptG w.s st d = { st with out := st.out ++ [x.e] } by rw [hxe2]; unfold keptG; rw [if_neg (by simp [c1]), if_neg (by simp [c2]), if_neg c3, if_neg (by simp [c4]), if_neg c5, if_neg (by simp [c6])]]
      exact kept_app hlo st xs x hxe hm (hmx.low (by omega)) (by omega) ((hlow kw (by omega)).trans ((g1 _).trans hw)) (fun k hk => (hlow k (by omega)).trans (g2 _ k hk)))
   | (have hmh : ∀ (o o' : Option AObj), LEnt.mine (((H2.put n2 o).put (n2 + 1) (some (.arr 0 1 []))).put n2 o') n (n2 + 2) { x with e := { x.e with kind := 2, value := [] }, v := ⟨n2 + 1, 0, []⟩ } := fun o o' => ⟨(hmx.r.low (by omega)).mono (fun k _ h2 => by rw [Heap.put_ne _ _ (by omega), Heap.put_ne _ _ (by omega), Heap.put_ne _ _ (by omega)]) (by omega), (hmx.q.low (by omega)).mono (fun k _ h2 => by rw [Heap.put_ne _ _ (by omega), Heap.put_ne _ _ (by omega), Heap.put_ne _ _ (by omega)]) (by omega), ⟨(Heap.put_ne _ _ (by show n2 + 1 ≠ n2; omega)).trans (Heap.put_same _ _ _), rfl, by show n ≤ n2 + 1; omega, by show n2 + 1 < n2 + 2; omega⟩, hmx.rq, by have := hmx.q.hi; show x.q.k < n2 + 1; omega⟩
      have g3 : ∀ (o o' o2 : Option AObj) k, k < n → (((H2.put n2 o).put (n2 + 1) o2).put n2 o') k = H2 k := fun o o' o2 k hk => (Heap.put_ne _ _ (by omega)).trans ((Heap.put_ne _ _ (by omega)).trans (Heap.put_ne _ _ (by omega)))
      rw [show keptG w.s st d = { st with out := st.out ++ [{ x.e with kind := 2, value := [] }] } by rw [hxe2]; unfold keptG; rw [if_neg (by simp [c1]), if_neg (by simp [c2]), if_neg c3, if_neg (by simp [c4]), if_neg c5, if_pos c6]]
      exact kept_app hlo st xs { x with e := { x.e with kind := 2, value := [] }, v := ⟨n2 + 1, 0, []⟩ } hxe hm (hmh _ _) (by omega) ((g3 _ _ _ kw (by omega)).trans ((hlow kw (by omega)).trans ((g1 _).trans hw))) (fun k hk => (g3 _ _ _ k hk).trans ((hlow k (by omega)).trans (g2 _ k hk))))
  ·skip
   have c1 : d.masked = false := hb
   refine awp_reg zs [0, 3, 29] fun K hK => ?_
   try simp only [go_sem, seval, ht, hto, hww, hwr1, hwr2, hwr3, hwr4, q1, q2, q3, q4, q5, q6, q7, hnth, r1, r2, r3, r4, r5, r6, r7, r8, r9, r10]
   repeat refine peel ?_
   refine hK _ _ _ ?_; clear hK K
   refine awp_cnd (fun hb => ?_) (fun hb => ?_)
   ·skip
    have c2 : d.expired = true := hb
    refine awp_reg1 zs [] fun K hK => ?_
    try simp only [go_sem, seval, ht, hto, hww, hwr1, hwr2, hwr3, hwr4, q1, q2, q3, q4, q5, q6, q7, hnth, r1, r2, r3, r4, r5, r6, r7, r8, r9, r10]
    repeat refine peel ?_
    refine hK _ _ _ ?_; clear hK K
    try simp only [go_sem, seval, ht, hto, hww, hwr1, hwr2, hwr3, hwr4, q1, q2, q3, q4, q5, q6, q7, hnth, r1, r2, r3, r4, r5, r6, r7, r8, r9, r10]
    try simp only [go_sem, seval, ht, hto, hww, hwr1, hwr2, hwr3, hwr4, q1, q2, q3, q4, q5, q6, q7, hnth, r1, r2, r3, r4, r5, r6, r7, r8, r9, r10]
    have g1 : ∀ (o : Option AObj), (H.put n o) kw = H kw := fun o => Heap.put_ne _ _ (by omega)
    have g2 : ∀ (o : Option AObj) k, k < n → (H.put n o) k = H k := fun o k hk => Heap.put_ne _ _ (by omega)
    first
    | (rw [show keptG w.s st d = { st with masked := st.masked + 1 } by simp [keptG, *]]
       exact kept_left hlo { st with masked := st.masked + 1 } (by omega) ((g1 _).trans hw) (hto0.mono (g2 _ ko hko) (fun k _ h2 => g2 _ k h2) (by omega)) (fun k hk _ _ _ => g2 _ k hk))
    | (rw [show keptG w.s st d = { st with expired := st.expired + 1 } by simp [keptG, *]]
       exact kept_left hlo { st with expired := st.expired + 1 } (by omega) ((g1 _).trans hw) (hto0.mono (g2 _ ko hko) (fun k _ h2 => g2 _ k h2) (by omega)) (fun k hk _ _ _ => g2 _ k hk))
    | (rw [show keptG w.s st d = { st with marks := st.marks + 1 } by simp [keptG, *]]
       exact kept_left hlo { st with marks := st.marks + 1 } (by omega) ((g1 _).trans hw) (hto0.mono (g2 _ ko hko) (fun k _ h2 => g2 _ k h2) (by omega)) (fun k hk _ _ _ => g2 _ k hk))
    | (rw [show keptG w.s st d = { st with above := st.above + 1 } by simp [keptG, *]]
       exact kept_left hlo { st with above := st.above + 1 } (by omega) ((g1 _).trans hw) (hto0.mono (g2 _ ko hko) (fun k _ h2 => g2 _ k h2) (by omega)) (fun k hk _ _ _ => g2 _ k hk))
    | (rw [show keptG w.s st d = { st with out := st.out ++ [x.e] } by rw [hxe2]; unfold keptG; rw [if_neg (by simp [c1]), if_neg (by simp [c2]), if_neg c3, if_pos c4]]
       exact kept_app hlo st xs x hxe hm (hmx.low (by omega)) (by omega) ((hlow kw (by omega)).trans ((g1 _).trans hw)) (fun k hk => (hlow k (by omega)).trans (g2 _ k hk)))
    | (rw [show keptG w.s st d = { st with out := st.out ++ [x.e] } by rw [hxe2]; unfold keptG; rw [if_neg (by simp [c1]), if_neg (by simp [c2]), if_neg c3, if_neg (by simp [c4]), if_neg c5, if_neg (by simp [c6])]]
       exact kept_app hlo st xs x hxe hm (hmx.low (by omega)) (by omega) ((hlow kw (by omega)).trans ((g1 _).trans hw)) (fun k hk => (hlow k (by omega)).trans (g2 _ k hk)))
    | (have hmh : ∀ (o o' : Option AObj), LEnt.mine (((H2.put n2 o).put (n2 + 1) (some (.arr 0 1 []))).put n2 o') n (n2 + 2) { x with e := { x.e with kind := 2, value := [] }, v := ⟨n2 + 1, 0, []⟩ } := fun o o' => ⟨(hmx.r.low (by omega)).mono (fun k _ h2 => by rw [Heap.put_ne _ _ (by omega), Heap.put_ne _ _ (by omega), Heap.put_ne _ _ (by omega)]) (by omega), (hmx.q.low (by omega)).mono (fun k _ h2 => by rw [Heap.put_ne _ _ (by omega), Heap.put_ne _ _ (by omega), Heap.put_ne _ _ (by omega)]) (by omega), ⟨(Heap.put_ne _ _ (by show n2 + 1 ≠ n2; omega)).trans (Heap.put_same _ _ _), rfl, by show n ≤ n2 + 1; omega, by show n2 + 1 < n2 + 2; omega⟩, hmx.rq, by have := hmx.q.hi; show x.q.k < n2 + 1; omega⟩
       have g3 : ∀ (o o' o2 : Option AObj) k, k < n → (((H2.put n2 o).put (n2 + 1) o2).put n2 o') k = H2 k := fun o o' o2 k hk => (Heap.put_ne _ _ (by omega)).trans ((Heap.put_ne _ _ (by omega)).trans (Heap.put_ne _ _ (by omega)))
       rw [show keptG w.s st d = { st with out := st.out ++ [{ x.e with kind := 2, value := [] }] } by rw [hxe2]; unfold keptG; rw [if_neg (by simp [c1]), if_neg (by simp [c2]), if_neg c3, if_neg (by simp [c4]), if_neg c5, if_pos c6]]
       exact kept_app hlo st xs { x with e := { x.e with kind := 2, value := [] }, v := ⟨n2 + 1, 0, []⟩ } hxe hm (hmh _ _) (by omega) ((g3 _ _ _ kw (by omega)).trans ((hlow kw (by omega)).trans ((g1 _).trans hw))) (fun k hk => (g3 _ _ _ k hk).trans ((hlow k (by omega)).trans (g2 _ k hk))))
   ·skip
    have c2 : d.expired = false := hb
    refine awp_reg zs [0, 3, 41] fun K hK => ?_
    try simp only [go_sem, seval, ht, hto, hww, hwr1, hwr2, hwr3, hwr4, q1, q2, q3, q4, q5, q6, q7, hnth, r1, r2, r3, r4, r5, r6, r7, r8, r9, r10]
    repeat refine peel ?_
    refine hK _ _ _ ?_; clear hK K
    refine awp_cnd (fun hb => ?_) (fun hb => ?_)
    ·skip
     have c3 : d.nothing = true ∧ st.major = true := by cases h1 : d.nothing <;> simp_all
     refine awp_reg1 zs [] fun K hK => ?_
     try simp only [go_sem, seval, ht, hto, hww, hwr1, hwr2, hwr3, hwr4, q1, q2, q3, q4, q5, q6, q7, hnth, r1, r2, r3, r4, r5, r6, r7, r8, r9, r10]
     repeat refine peel ?_
     refine hK _ _ _ ?_; clear hK K
     try simp only [go_sem, seval, ht, hto, hww, hwr1, hwr2, hwr3, hwr4, q1, q2, q3, q4, q5, q6, q7, hnth, r1, r2, r3, r4, r5, r6, r7, r8, r9, r10]
     try simp only [go_sem, seval, ht, hto, hww, hwr1, hwr2, hwr3, hwr4, q1, q2, q3, q4, q5, q6, q7, hnth, r1, r2, r3, r4, r5, r6, r7, r8, r9, r10]
     have g1 : ∀ (o : Option AObj), (H.put n o) kw = H kw := fun o => Heap.put_ne _ _ (by omega)
     have g2 : ∀ (o : Option AObj) k, k < n → (H.put n o) k = H k := fun o k hk => Heap.put_ne _ _ (by omega)
     first
     | (rw [show keptG w.s st d = { st with masked := st.masked + 1 } by simp [keptG, *]]
        exact kept_left hlo { st with masked := st.masked + 1 } (by omega) ((g1 _).trans hw) (hto0.mono (g2 _ ko hko) (fun k _ h2 => g2 _ k h2) (by omega)) (fun k hk _ _ _ => g2 _ k hk))
     | (rw [show keptG w.s st d = { st with expired := st.expired + 1 } by simp [keptG, *]]
        exact kept_left hlo { st with expired := st.expired + 1 } (by omega) ((g1 _).trans hw) (hto0.mono (g2 _ ko hko) (fun k _ h2 => g2 _ k h2) (by omega)) (fun k hk _ _ _ => g2 _ k hk))
     | (rw [show keptG w.s st d = { st with marks := st.marks + 1 } by simp [keptG, *]]
        exact kept_left hlo { st with marks := st.marks + 1 } (by omega) ((g1 _).trans hw) (hto0.mono (g2 _ ko hko) (fun k _ h2 => g2 _ k h2) (by omega)) (fun k hk _ _ _ => g2 _ k hk))
     | (rw [show keptG w.s st d = { st with above := st.above + 1 } by simp [keptG, *]]
        exact kept_left hlo { st with above := st.above + 1 } (by omega) ((g1 _).trans hw) (hto0.mono (g2 _ ko hko) (fun k _ h2 => g2 _ k h2) (by omega)) (fun k hk _ _ _ => g2 _ k hk))
     | (rw [show keptG w.s st d = { st with out := st.out ++ [x.e] } by rw [hxe2]; unfold keptG; rw [if_neg (by simp [c1]), if_neg (by simp [c2]), if_neg c3, if_pos c4]]
        exact kept_app hlo st xs x hxe hm (hmx.low (by omega)) (by omega) ((hlow kw (by omega)).trans ((g1 _).trans hw)) (fun k hk => (hlow k (by omega)).trans (g2 _ k hk)))
     | (rw [show keptG w.s st d = { st with out := st.out ++ [x.e] } by rw [hxe2]; unfold keptG; rw [if_neg (by simp [c1]), if_neg (by simp [c2]), if_neg c3, if_neg (by simp [c4]), if_neg c5, if_neg (by simp [c6])]]
        exact kept_app hlo st xs x hxe hm (hmx.low (by omega)) (by omega) ((hlow kw (by omega)).trans ((g1 _).trans hw)) (fun k hk => (hlow k (by omega)).trans (g2 _ k hk)))
     | (have hmh : ∀ (o o' : Option AObj), LEnt.mine (((H2.put n2 o).put (n2 + 1) (some (.arr 0 1 []))).put n2 o') n (n2 + 2) { x with e := { x.e with kind := 2, value := [] }, v := ⟨n2 + 1, 0, []⟩ } := fun o o' => ⟨(hmx.r.low (by omega)).mono (fun k _ h2 => by rw [Heap.put_ne _ _ (by omega), Heap.put_ne _ _ (by omega), Heap.put_ne _ _ (by omega)]) (by omega), (hmx.q.low (by omega)).mono (fun k _ h2 => by rw [Heap.put_ne _ _ (by omega), Heap.put_ne _ _ (by omega), Heap.put_ne _ _ (by omega)]) (by omega), ⟨(Heap.put_ne _ _ (by show n2 + 1 ≠ n2; omega)).trans (Heap.put_same _ _ _), rfl, by show n ≤ n2 + 1; omega, by show n2 + 1 < n2 + 2; omega⟩, hmx.rq, by have := hmx.q.hi; show x.q.k < n2 + 1; omega⟩
        have g3 : ∀ (o o' o2 : Option AObj) k, k < n → (((H2.put n2 o).put (n2 + 1) o2).put n2 o') k = H2 k := fun o o' o2 k hk => (Heap.put_ne _ _ (by omega)).trans ((Heap.put_ne _ _ (by omega)).trans (Heap.put_ne _ _ (by omega)))
        rw [show keptG w.s st d = { st with out := st.out ++ [{ x.e with kind := 2, value := [] }] } by rw [hxe2]; unfold keptG; rw [if_neg (by simp [c1]), if_neg (by simp [c2]), if_neg c3, if_neg (by simp [c4]), if_neg c5, if_pos c6]]
        exact kept_app hlo st xs { x with e := { x.e with kind := 2, value := [] }, v := ⟨n2 + 1, 0, []⟩ } hxe hm (hmh _ _) (by omega) ((g3 _ _ _ kw (by omega)).trans ((hlow kw (by omega)).trans ((g1 _).trans hw))) (fun k hk => (g3 _ _ _ k hk).trans ((hlow k (by omega)).trans (g2 _ k hk))))
    ·skip
     have c3 : ¬ (d.nothing = true ∧ st.major = true) := by cases h1 : d.nothing <;> simp_all
     refine awp_reg zs [0, 3, 59] fun K hK => ?_
     try simp only [go_sem, seval, ht, hto, hww, hwr1, hwr2, hwr3, hwr4, q1, q2, q3, q4, q5, q6, q7, hnth, r1, r2, r3, r4, r5, r6, r7, r8, r9, r10]
     repeat refine peel ?_
     refine hK _ _ _ ?_; clear hK K
     refine awp_cnd (fun hb => ?_) (fun hb => ?_)
     ·skip
      have c4 : d.nothing = true := hb
      refine awp_drp1 rfl zs [] [.m, .m, .q, .q, .q, .q, .q, .w [2, 3, 4], .q, .w [], .q, .q, .w []] [0, 1, 2, 3, 4, 5, 6, 7, 8, 9, 10, 11, 12] [0, 1, 2, 3, 4, 5, 6, 7, 8, 9, 10, 11, 12] (by kernel_rfl) (fun _ _ _ _ _ h => h) fun K hK => ?_
      try simp only [go_sem, seval, ht, hto, hww, hwr1, hwr2, hwr3, hwr4, q1, q2, q3, q4, q5, q6, q7, hnth, r1, r2, r3, r4, r5, r6, r7, r8, r9, r10]
      repeat (first | (refine And.intro ?_ ?_; · first | exact ⟨rfl, by simp [AV.sz, AV.szs, AV.memOK, lentAV, Lp.av]⟩ | (simp; omega)) | refine peel ?_)
      refine callK_useK (args' := [entAV d.e]) Try.func67 rfl rfl rfl (o_retain_copied d.e he _ _) ?_ ?_
      rotate_left
      · intro p H' n' h; obtain ⟨x, hx, _⟩ := h; cases hx
      rintro r H2 n2 ⟨x, hr2, hxe2, hn2, hmx, hlow⟩
      cases hr2
      have r1 := (hlow kt (by omega)).trans ((Heap.put_ne _ _ (by omega)).trans ht)
      have r2 := (hlow ko (by omega)).trans ((Heap.put_ne _ _ (by omega)).trans hto)
      have r3 : (kt = n2) = False := by simp; omega
      have r4 : (ko = n2) = False := by simp; omega
      have r5 : (n2 = kt) = False := by simp; omega
      have r6 : (n2 = ko) = False := by simp; omega
      have r7 : (kt = n2 + 1) = False := by simp; omega
      have r8 : (ko = n2 + 1) = False := by simp; omega
      have r9 : (n2 + 1 = kt) = False := by simp; omega
      have r10 : (n2 + 1 = ko) = False := by simp; omega
      try simp only [go_sem, seval, ht, hto, hww, hwr1, hwr2, hwr3, hwr4, q1, q2, q3, q4, q5, q6, q7, hnth, r1, r2, r3, r4, r5, r6, r7, r8, r9, r10]
      repeat (first | (refine And.intro ?_ ?_; · first | exact ⟨rfl, by simp [AV.sz, AV.szs, AV.memOK, lentAV, Lp.av]⟩ | (simp; omega)) | refine peel ?_)
      refine hK _ _ _ ?_; clear hK K
      try simp only [go_sem, seval, ht, hto, hww, hwr1, hwr2, hwr3, hwr4, q1, q2, q3, q4, q5, q6, q7, hnth, r1, r2, r3, r4, r5, r6, r7, r8, r9, r10]
      try simp only [go_sem, seval, ht, hto, hww, hwr1, hwr2, hwr3, hwr4, q1, q2, q3, q4, q5, q6, q7, hnth, r1, r2, r3, r4, r5, r6, r7, r8, r9, r10]
      have g1 : ∀ (o : Option AObj), (H.put n o) kw = H kw := fun o => Heap.put_ne _ _ (by omega)
      have g2 : ∀ (o : Option AObj) k, k < n → (H.put n o) k = H k := fun o k hk => Heap.put_ne _ _ (by omega)
      first
      | (rw [show keptG w.s st d = { st with masked := st.masked + 1 } by simp [keptG, *]]
         exact kept_left hlo { st with masked := st.masked + 1 } (by omega) ((g1 _).trans hw) (hto0.mono (g2 _ ko hko) (fun k _ h2 => g2 _ k h2) (by omega)) (fun k hk _ _ _ => g2 _ k hk))
      | (rw [show keptG w.s st d = { st with expired := st.expired + 1 } by simp [keptG, *]]
         exact kept_left hlo { st with expired := st.expired + 1 } (by omega) ((g1 _).trans hw) (hto0.mono (g2 _ ko hko) (fun k _ h2 => g2 _ k h2) (by omega)) (fun k hk _ _ _ => g2 _ k hk))
      | (rw [show keptG w.s st d = { st with marks := st.marks + 1 } by simp [keptG, *]]
         exact kept_left hlo { st with marks := st.marks + 1 } (by omega) ((g1 _).trans hw) (hto0.mono (g2 _ ko hko) (fun k _ h2 => g2 _ k h2) (by omega)) (fun k hk _ _ _ => g2 _ k hk))
      | (rw [show keptG w.s st d = { st with above := st.above + 1 } by simp [keptG, *]]
         exact kept_left hlo { st with above := st.above + 1 } (by omega) ((g1 _).trans hw) (hto0.mono (g2 _ ko hko) (fun k _ h2 => g2 _ k h2) (by omega)) (fun k hk _ _ _ => g2 _ k hk))
      | (rw [show keptG w.s st d = { st with out := st.out ++ [x.e] } by rw [hxe2]; unfold keptG; rw [if_neg (by simp [c1]), if_neg (by simp [c2]), if_neg c3, if_pos c4]]
         exact kept_app hlo st xs x hxe hm (hmx.low (by omega)) (by omega) ((hlow kw (by omega)).trans ((g1 _).trans hw)) (fun k hk => (hlow k (by omega)).trans (g2 _ k hk)))
      | (rw [show keptG w.s st d = { st with out := st.out ++ [x.e] } by rw [hxe2]; unfold keptG; rw [if_neg (by simp [c1]), if_neg (by simp [c2]), if_neg c3, if_neg (by simp [c4]), if_neg c5, if_neg (by simp [c6])]]
         exact kept_app hlo st xs x hxe hm (hmx.low (by omega)) (by omega) ((hlow kw (by omega)).trans ((g1 _).trans hw)) (fun k hk => (hlow k (by omega)).trans (g2 _ k hk)))
      | (have hmh : ∀ (o o' : Option AObj), LEnt.mine (((H2.put n2 o).put (n2 + 1) (some (.arr 0 1 []))).put n2 o') n (n2 + 2) { x with e := { x.e with kind := 2, value := [] }, v := ⟨n2 + 1, 0, []⟩ } := fun o o' => ⟨(hmx.r.low (by omega)).mono (fun k _ h2 => by rw [Heap.put_ne _ _ (by omega), Heap.put_ne _ _ (by omega), Heap.put_ne _ _ (by omega)]) (by omega), (hmx.q.low (by omega)).mono (fun k _ h2 => by rw [Heap.put_ne _ _ (by omega), Heap.put_ne _ _ (by omega), Heap.put_ne _ _ (by omega)]) (by omega), ⟨(Heap.put_ne _ _ (by show n2 + 1 ≠ n2; omega)).trans (Heap.put_same _ _ _), rfl, by show n ≤ n2 + 1; omega, by show n2 + 1 < n2 + 2; omega⟩, hmx.rq, by have := hmx.q.hi; show x.q.k < n2 + 1; omega⟩
         have g3 : ∀ (o o' o2 : Option AObj) k, k < n → (((H2.put n2 o).put (n2 + 1) o2).put n2 o') k = H2 k := fun o o' o2 k hk => (Heap.put_ne _ _ (by omega)).trans ((Heap.put_ne _ _ (by omega)).trans (Heap.put_ne _ _ (by omega)))
         rw [show keptG w.s st d = { st with out := st.out ++ [{ x.e with kind := 2, value := [] }] } by rw [hxe2]; unfold keptG; rw [if_neg (by simp [c1]), if_neg (by simp [c2]), if_neg c3, if_neg (by simp [c4]), if_neg c5, if_pos c6]]
         exact kept_app hlo st xs { x with e := { x.e with kind := 2, value := [] }, v := ⟨n2 + 1, 0, []⟩ } hxe hm (hmh _ _) (by omega) ((g3 _ _ _ kw (by omega)).trans ((hlow kw (by omega)).trans ((g1 _).trans hw))) (fun k hk => (g3 _ _ _ k hk).trans ((hlow k (by omega)).trans (g2 _ k hk))))
     ·skip
      have c4 : d.nothing = false := hb
      refine awp_drw rfl zs [0, 3, 74] [.q, .q, .m, .q, .q, .q, .q, .q, .q, .q, .q, .q, .q, .q, .q, .q, .q, .q] (by kernel_rfl) (fun _ _ _ _ _ h => h) fun K hK => ?_
      try simp only [go_sem, seval, ht, hto, hww, hwr1, hwr2, hwr3, hwr4, q1, q2, q3, q4, q5, q6, q7, hnth, r1, r2, r3, r4, r5, r6, r7, r8, r9, r10]
      repeat refine peel ?_
      refine hK _ _ _ ?_; clear hK K
      refine awp_cnd (fun hb => ?_) (fun hb => ?_)
      ·skip
       have c5 : (famAt w.s d.e.fam).max < d.rank := by simpa using hb
       refine awp_reg1 zs [] fun K hK => ?_
       try simp only [go_sem, seval, ht, hto, hww, hwr1, hwr2, hwr3, hwr4, q1, q2, q3, q4, q5, q6, q7, hnth, r1, r2, r3, r4, r5, r6, r7, r8, r9, r10]
       repeat refine peel ?_
       refine hK _ _ _ ?_; clear hK K
       try simp only [go_sem, seval, ht, hto, hww, hwr1, hwr2, hwr3, hwr4, q1, q2, q3, q4, q5, q6, q7, hnth, r1, r2, r3, r4, r5, r6, r7, r8, r9, r10]
       try simp only [go_sem, seval, ht, hto, hww, hwr1, hwr2, hwr3, hwr4, q1, q2, q3, q4, q5, q6, q7, hnth, r1, r2, r3, r4, r5, r6, r7, r8, r9, r10]
       have g1 : ∀ (o : Option AObj), (H.put n o) kw = H kw := fun o => Heap.put_ne _ _ (by omega)
       have g2 : ∀ (o : Option AObj) k, k < n → (H.put n o) k = H k := fun o k hk => Heap.put_ne _ _ (by omega)
       first
       | (rw [show keptG w.s st d = { st with masked := st.masked + 1 } by simp [keptG, *]]
          exact kept_left hlo { st with masked := st.masked + 1 } (by omega) ((g1 _).trans hw) (hto0.mono (g2 _ ko hko) (fun k _ h2 => g2 _ k h2) (by omega)) (fun k hk _ _ _ => g2 _ k hk))
       | (rw [show keptG w.s st d = { st with expired := st.expired + 1 } by simp [keptG, *]]
          exact kept_left hlo { st with expired := st.expired + 1 } (by omega) ((g1 _).trans hw) (hto0.mono (g2 _ ko hko) (fun k _ h2 => g2 _ k h2) (by omega)) (fun k hk _ _ _ => g2 _ k hk))
       | (rw [show keptG w.s st d = { st with marks := st.marks + 1 } by simp [keptG, *]]
          exact kept_left hlo { st with marks := st.marks + 1 } (by omega) ((g1 _).trans hw) (hto0.mono (g2 _ ko hko) (fun k _ h2 => g2 _ k h2) (by omega)) (fun k hk _ _ _ => g2 _ k hk))
       | (rw [show keptG w.s st d = { st with above := st.above + 1 } by simp [keptG, *]]
          exact kept_left hlo { st with above := st.above + 1 } (by omega) ((g1 _).trans hw) (hto0.mono (g2 _ ko hko) (fun k _ h2 => g2 _ k h2) (by omega)) (fun k hk _ _ _ => g2 _ k hk))
       | (rw [show keptG w.s st d = { st with out := st.out ++ [x.e] } by rw [hxe2]; unfold keptG; rw [if_neg (by simp [c1]), if_neg (by simp [c2]), if_neg c3, if_pos c4]]
          exact kept_app hlo st xs x hxe hm (hmx.low (by omega)) (by omega) ((hlow kw (by omega)).trans ((g1 _).trans hw)) (fun k hk => (hlow k (by omega)).trans (g2 _ k hk)))
       | (rw [show keptG w.s st d = { st with out := st.out ++ [x.e] } by rw [hxe2]; unfold keptG; rw [if_neg (by simp [c1]), if_neg (by simp [c2]), if_neg c3, if_neg (by simp [c4]), if_neg c5, if_neg (by simp [c6])]]
          exact kept_app hlo st xs x hxe hm (hmx.low (by omega)) (by omega) ((hlow kw (by omega)).trans ((g1 _).trans hw)) (fun k hk => (hlow k (by omega)).trans (g2 _ k hk)))
       | (have hmh : ∀ (o o' : Option AObj), LEnt.mine (((H2.put n2 o).put (n2 + 1) (some (.arr 0 1 []))).put n2 o') n (n2 + 2) { x with e := { x.e with kind := 2, value := [] }, v := ⟨n2 + 1, 0, []⟩ } := fun o o' => ⟨(hmx.r.low (by omega)).mono (fun k _ h2 => by rw [Heap.put_ne _ _ (by omega), Heap.put_ne _ _ (by omega), Heap.put_ne _ _ (by omega)]) (by omega), (hmx.q.low (by omega)).mono (fun k _ h2 => by rw [Heap.put_ne _ _ (by omega), Heap.put_ne _ _ (by omega), Heap.put_ne _ _ (by omega)]) (by omega), ⟨(Heap.put_ne _ _ (by show n2 + 1 ≠ n2; omega)).trans (Heap.put_same _ _ _), rfl, by show n ≤ n2 + 1; omega, by show n2 + 1 < n2 + 2; omega⟩, hmx.rq, by have := hmx.q.hi; show x.q.k < n2 + 1; omega⟩
          have g3 : ∀ (o o' o2 : Option AObj) k, k < n → (((H2.put n2 o).put (n2 + 1) o2).put n2 o') k = H2 k := fun o o' o2 k hk => (Heap.put_ne _ _ (by omega)).trans ((Heap.put_ne _ _ (by omega)).trans (Heap.put_ne _ _ (by omega)))
          rw [show keptG w.s st d = { st with out := st.out ++ [{ x.e with kind := 2, value := [] }] } by rw [hxe2]; unfold keptG; rw [if_neg (by simp [c1]), if_neg (by simp [c2]), if_neg c3, if_neg (by simp [c4]), if_neg c5, if_pos c6]]
          exact kept_app hlo st xs { x with e := { x.e with kind := 2, value := [] }, v := ⟨n2 + 1, 0, []⟩ } hxe hm (hmh _ _) (by omega) ((g3 _ _ _ kw (by omega)).trans ((hlow kw (by omega)).trans ((g1 _).trans hw))) (fun k hk => (g3 _ _ _ k hk).trans ((hlow k (by omega)).trans (g2 _ k hk))))
      ·skip
       have c5 : ¬ (famAt w.s d.e.fam).max < d.rank := by simpa using hb
       refine awp_reg zs [0, 3, 101] fun K hK => ?_
       try simp only [go_sem, seval, ht, hto, hww, hwr1, hwr2, hwr3, hwr4, q1, q2, q3, q4, q5, q6, q7, hnth, r1, r2, r3, r4, r5, r6, r7, r8, r9, r10]
       repeat refine peel ?_
       refine hK _ _ _ ?_; clear hK K
       refine awp_cnd (fun hb => ?_) (fun hb => ?_)
       ·skip
        have c6 : d.husk = true := hb
        refine awp_reg zs [0, 4] fun K hK => ?_
        try simp only [go_sem, seval, ht, hto, hww, hwr1, hwr2, hwr3, hwr4, q1, q2, q3, q4, q5, q6, q7, hnth, r1, r2, r3, r4, r5, r6, r7, r8, r9, r10]
        repeat refine peel ?_
        refine callK_useK (args' := [entAV d.e]) Try.func67 rfl rfl rfl (o_retain_copied d.e he _ _) ?_ ?_
        rotate_left
        · intro p H' n' h; obtain ⟨x, hx, _⟩ := h; cases hx
        rintro r H2 n2 ⟨x, hr2, hxe2, hn2, hmx, hlow⟩
        cases hr2
        have r1 := (hlow kt (by omega)).trans ((Heap.put_ne _ _ (by omega)).trans ht)
        have r2 := (hlow ko (by omega)).trans ((Heap.put_ne _ _ (by omega)).trans hto)
        have r3 : (kt = n2) = False := by simp; omega
        have r4 : (ko = n2) = False := by simp; omega
        have r5 : (n2 = kt) = False := by simp; omega
        have r6 : (n2 = ko) = False := by simp; omega
        have r7 : (kt = n2 + 1) = False := by simp; omega
        have r8 : (ko = n2 + 1) = False := by simp; omega
        have r9 : (n2 + 1 = kt) = False := by simp; omega
        have r10 : (n2 + 1 = ko) = False := by simp; omega
        try simp only [go_sem, seval, ht, hto, hww, hwr1, hwr2, hwr3, hwr4, q1, q2, q3, q4, q5, q6, q7, hnth, r1, r2, r3, r4, r5, r6, r7, r8, r9, r10]
        repeat refine peel ?_
        refine hK _ _ _ ?_; clear hK K
        refine awp_reg zs [0, 4] fun K hK => ?_
        try simp only [go_sem, seval, ht, hto, hww, hwr1, hwr2, hwr3, hwr4, q1, q2, q3, q4, q5, q6, q7, hnth, r1, r2, r3, r4, r5, r6, r7, r8, r9, r10]
        repeat refine peel ?_
        refine hK _ _ _ ?_; clear hK K
        refine awp_adopt_obj n2 1 (els' := [lentAV { x with e := { x.e with kind := 2, value := [] }, v := ⟨n2 + 1, 0, []⟩ }]) (Heap.put_same _ _ _) ⟨Adp.agg ⟨.refl _ _, .refl _ _, .refl _ _, .refl _ _, .refl _ _, .refl _ _, Adp.nilsl _, trivial⟩, trivial⟩ ?_
        refine awp_drw1 rfl zs [] [.m, .m, .q, .q, .q, .q, .q, .w [], .q, .q, .w []] (by kernel_rfl) (fun _ _ _ _ _ h => h) fun K hK => ?_
        try simp only [go_sem, seval, ht, hto, hww, hwr1, hwr2, hwr3, hwr4, q1, q2, q3, q4, q5, q6, q7, hnth, r1, r2, r3, r4, r5, r6, r7, r8, r9, r10]
        repeat (first | (refine And.intro ?_ ?_; · first | exact ⟨rfl, by simp [AV.sz, AV.szs, AV.memOK, lentAV, Lp.av]⟩ | (simp; omega)) | refine peel ?_)
        refine hK _ _ _ ?_; clear hK K
        try simp only [go_sem, seval, ht, hto, hww, hwr1, hwr2, hwr3, hwr4, q1, q2, q3, q4, q5, q6, q7, hnth, r1, r2, r3, r4, r5, r6, r7, r8, r9, r10]
        try simp only [go_sem, seval, ht, hto, hww, hwr1, hwr2, hwr3, hwr4, q1, q2, q3, q4, q5, q6, q7, hnth, r1, r2, r3, r4, r5, r6, r7, r8, r9, r10]
        have g1 : ∀ (o : Option AObj), (H.put n o) kw = H kw := fun o => Heap.put_ne _ _ (by omega)
        have g2 : ∀ (o : Option AObj) k, k < n → (H.put n o) k = H k := fun o k hk => Heap.put_ne _ _ (by omega)
        first
        | (rw [show keptG w.s st d = { st with masked := st.masked + 1 } by simp [keptG, *]]
           exact kept_left hlo { st with masked := st.masked + 1 } (by omega) ((g1 _).trans hw) (hto0.mono (g2 _ ko hko) (fun k _ h2 => g2 _ k h2) (by omega)) (fun k hk _ _ _ => g2 _ k hk))
        | (rw [show keptG w.s st d = { st with expired := st.expired + 1 } by simp [keptG, *]]
           exact kept_left hlo { st with expired := st.expired + 1 } (by omega) ((g1 _).trans hw) (hto0.mono (g2 _ ko hko) (fun k _ h2 => g2 _ k h2) (by omega)) (fun k hk _ _ _ => g2 _ k hk))
        | (rw [show keptG w.s st d = { st with marks := st.marks + 1 } by simp [keptG, *]]
           exact kept_left hlo { st with marks := st.marks + 1 } (by omega) ((g1 _).trans hw) (hto0.mono (g2 _ ko hko) (fun k _ h2 => g2 _ k h2) (by omega)) (fun k hk _ _ _ => g2 _ k hk))
        | (rw [show keptG w.s st d = { st with above := st.above + 1 } by simp [keptG, *]]
           exact kept_left hlo { st with above := st.above + 1 } (by omega) ((g1 _).trans hw) (hto0.mono (g2 _ ko hko) (fun k _ h2 => g2 _ k h2) (by omega)) (fun k hk _ _ _ => g2 _ k hk))
        | (rw [show keptG w.s st d = { st with out := st.out ++ [x.e] } by rw [hxe2]; unfold keptG; rw [if_neg (by simp [c1]), if_neg (by simp [c2]), if_neg c3, if_pos c4]]
           exact kept_app hlo st xs x hxe hm (hmx.low (by omega)) (by omega) ((hlow kw (by omega)).trans ((g1 _).trans hw)) (fun k hk => (hlow k (by omega)).trans (g2 _ k hk)))
        | (rw [show keptG w.s st d = { st with out := st.out ++ [x.e] } by rw [hxe2]; unfold keptG; rw [if_neg (by simp [c1]), if_neg (by simp [c2]), if_neg c3, if_neg (by simp [c4]), if_neg c5, if_neg (by simp [c6])]]
           exact kept_app hlo st xs x hxe hm (hmx.low (by omega)) (by omega) ((hlow kw (by omega)).trans ((g1 _).trans hw)) (fun k hk => (hlow k (by omega)).trans (g2 _ k hk)))
        | (have hmh : ∀ (o o' : Option AObj), LEnt.mine (((H2.put n2 o).put (n2 + 1) (some (.arr 0 1 []))).put n2 o') n (n2 + 2) { x with e := { x.e with kind := 2, value := [] }, v := ⟨n2 + 1, 0, []⟩ } := fun o o' => ⟨(hmx.r.low (by omega)).mono (fun k _ h2 => by rw [Heap.put_ne _ _ (by omega), Heap.put_ne _ _ (by omega), Heap.put_ne _ _ (by omega)]) (by omega), (hmx.q.low (by omega)).mono (fun k _ h2 => by rw [Heap.put_ne _ _ (by omega), Heap.put_ne _ _ (by omega), Heap.put_ne _ _ (by omega)]) (by omega), ⟨(Heap.put_ne _ _ (by show n2 + 1 ≠ n2; omega)).trans (Heap.put_same _ _ _), rfl, by show n ≤ n2 + 1; omega, by show n2 + 1 < n2 + 2; omega⟩, hmx.rq, by have := hmx.q.hi; show x.q.k < n2 + 1; omega⟩
           have g3 : ∀ (o o' o2 : Option AObj) k, k < n → (((H2.put n2 o).put (n2 + 1) o2).put n2 o') k = H2 k := fun o o' o2 k hk => (Heap.put_ne _ _ (by omega)).trans ((Heap.put_ne _ _ (by omega)).trans (Heap.put_ne _ _ (by omega)))
           rw [show keptG w.s st d = { st with out := st.out ++ [{ x.e with kind := 2, value := [] }] } by rw [hxe2]; unfold keptG; rw [if_neg (by simp [c1]), if_neg (by simp [c2]), if_neg c3, if_neg (by simp [c4]), if_neg c5, if_pos c6]]
           exact kept_app hlo st xs { x with e := { x.e with kind := 2, value := [] }, v := ⟨n2 + 1, 0, []⟩ } hxe hm (hmh _ _) (by omega) ((g3 _ _ _ kw (by omega)).trans ((hlow kw (by omega)).trans ((g1 _).trans hw))) (fun k hk => (g3 _ _ _ k hk).trans ((hlow k (by omega)).trans (g2 _ k hk))))
       ·skip
        have c6 : d.husk = false := hb
        refine awp_drp1 rfl zs [] [.m, .m, .q, .q, .q, .q, .q, .w [2, 3, 4], .q, .w [], .q, .q, .w []] [0, 1, 2, 3, 4, 5, 6, 7, 8, 9, 10, 11, 12] [0, 1, 2, 3, 4, 5, 6, 7, 8, 9, 10, 11, 12] (by kernel_rfl) (fun _ _ _ _ _ h => h) fun K hK => ?_
        try simp only [go_sem, seval, ht, hto, hww, hwr1, hwr2, hwr3, hwr4, q1, q2, q3, q4, q5, q6, q7, hnth, r1, r2, r3, r4, r5, r6, r7, r8, r9, r10]
        repeat (first | (refine And.intro ?_ ?_; · first | exact ⟨rfl, by simp [AV.sz, AV.szs, AV.memOK, lentAV, Lp.av]⟩ | (simp; omega)) | refine peel ?_)
        refine callK_useK (args' := [entAV d.e]) Try.func67 rfl rfl rfl (o_retain_copied d.e he _ _) ?_ ?_
        rotate_left
        · intro p H' n' h; obtain ⟨x, hx, _⟩ := h; cases hx
        rintro r H2 n2 ⟨x, hr2, hxe2, hn2, hmx, hlow⟩
        cases hr2
        have r1 := (hlow kt (by omega)).trans ((Heap.put_ne _ _ (by omega)).trans ht)
        have r2 := (hlow ko (by omega)).trans ((Heap.put_ne _ _ (by omega)).trans hto)
        have r3 : (kt = n2) = False := by simp; omega
        have r4 : (ko = n2) = False := by simp; omega
        have r5 : (n2 = kt) = False := by simp; omega
        have r6 : (n2 = ko) = False := by simp; omega
        have r7 : (kt = n2 + 1) = False := by simp; omega
        have r8 : (ko = n2 + 1) = False := by simp; omega
        have r9 : (n2 + 1 = kt) = False := by simp; omega
        have r10 : (n2 + 1 = ko) = False := by simp; omega
        try simp only [go_sem, seval, ht, hto, hww, hwr1, hwr2, hwr3, hwr4, q1, q2, q3, q4, q5, q6, q7, hnth, r1, r2, r3, r4, r5, r6, r7, r8, r9, r10]
        repeat (first | (refine And.intro ?_ ?_; · first | exact ⟨rfl, by simp [AV.sz, AV.szs, AV.memOK, lentAV, Lp.av]⟩ | (simp; omega)) | refine peel ?_)
        refine hK _ _ _ ?_; clear hK K
        try simp only [go_sem, seval, ht, hto, hww, hwr1, hwr2, hwr3, hwr4, q1, q2, q3, q4, q5, q6, q7, hnth, r1, r2, r3, r4, r5, r6, r7, r8, r9, r10]
        try simp only [go_sem, seval, ht, hto, hww, hwr1, hwr2, hwr3, hwr4, q1, q2, q3, q4, q5, q6, q7, hnth, r1, r2, r3, r4, r5, r6, r7, r8, r9, r10]
        have g1 : ∀ (o : Option AObj), (H.put n o) kw = H kw := fun o => Heap.put_ne _ _ (by omega)
        have g2 : ∀ (o : Option AObj) k, k < n → (H.put n o) k = H k := fun o k hk => Heap.put_ne _ _ (by omega)
        first
        | (rw [show keptG w.s st d = { st with masked := st.masked + 1 } by simp [keptG, *]]
           exact kept_left hlo { st with masked := st.masked + 1 } (by omega) ((g1 _).trans hw) (hto0.mono (g2 _ ko hko) (fun k _ h2 => g2 _ k h2) (by omega)) (fun k hk _ _ _ => g2 _ k hk))
        | (rw [show keptG w.s st d = { st with expired := st.expired + 1 } by simp [keptG, *]]
           exact kept_left hlo { st with expired := st.expired + 1 } (by omega) ((g1 _).trans hw) (hto0.mono (g2 _ ko hko) (fun k _ h2 => g2 _ k h2) (by omega)) (fun k hk _ _ _ => g2 _ k hk))
        | (rw [show keptG w.s st d = { st with marks := st.marks + 1 } by simp [keptG, *]]
           exact kept_left hlo { st with marks := st.marks + 1 } (by omega) ((g1 _).trans hw) (hto0.mono (g2 _ ko hko) (fun k _ h2 => g2 _ k h2) (by omega)) (fun k hk _ _ _ => g2 _ k hk))
        | (rw [show keptG w.s st d = { st with above := st.above + 1 } by simp [keptG, *]]
           exact kept_left hlo { st with above := st.above + 1 } (by omega) ((g1 _).trans hw) (hto0.mono (g2 _ ko hko) (fun k _ h2 => g2 _ k h2) (by omega)) (fun k hk _ _ _ => g2 _ k hk))
        | (rw [show keptG w.s st d = { st with out := st.out ++ [x.e] } by rw [hxe2]; unfold keptG; rw [if_neg (by simp [c1]), if_neg (by simp [c2]), if_neg c3, if_pos c4]]
           exact kept_app hlo st xs x hxe hm (hmx.low (by omega)) (by omega) ((hlow kw (by omega)).trans ((g1 _).trans hw)) (fun k hk => (hlow k (by omega)).trans (g2 _ k hk)))
        | (rw [show keptG w.s st d = { st with out := st.out ++ [x.e] } by rw [hxe2]; unfold keptG; rw [if_neg (by simp [c1]), if_neg (by simp [c2]), if_neg c3, if_neg (by simp [c4]), if_neg c5, if_neg (by simp [c6])]]
           exact kept_app hlo st xs x hxe hm (hmx.low (by omega)) (by omega) ((hlow kw (by omega)).trans ((g1 _).trans hw)) (fun k hk => (hlow k (by omega)).trans (g2 _ k hk)))
        | (have hmh : ∀ (o o' : Option AObj), LEnt.mine (((H2.put n2 o).put (n2 + 1) (some (.arr 0 1 []))).put n2 o') n (n2 + 2) { x with e := { x.e with kind := 2, value := [] }, v := ⟨n2 + 1, 0, []⟩ } := fun o o' => ⟨(hmx.r.low (by omega)).mono (fun k _ h2 => by rw [Heap.put_ne _ _ (by omega), Heap.put_ne _ _ (by omega), Heap.put_ne _ _ (by omega)]) (by omega), (hmx.q.low (by omega)).mono (fun k _ h2 => by rw [Heap.put_ne _ _ (by omega), Heap.put_ne _ _ (by omega), Heap.put_ne _ _ (by omega)]) (by omega), ⟨(Heap.put_ne _ _ (by show n2 + 1 ≠ n2; omega)).trans (Heap.put_same _ _ _), rfl, by show n ≤ n2 + 1; omega, by show n2 + 1 < n2 + 2; omega⟩, hmx.rq, by have := hmx.q.hi; show x.q.k < n2 + 1; omega⟩
           have g3 : ∀ (o o' o2 : Option AObj) k, k < n → (((H2.put n2 o).put (n2 + 1) o2).put n2 o') k = H2 k := fun o o' o2 k hk => (Heap.put_ne _ _ (by omega)).trans ((Heap.put_ne _ _ (by omega)).trans (Heap.put_ne _ _ (by omega)))
           rw [show keptG w.s st d = { st with out := st.out ++ [{ x.e with kind := 2, value := [] }] } by rw [hxe2]; unfold keptG; rw [if_neg (by simp [c1]), if_neg (by simp [c2]), if_neg c3, if_neg (by simp [c4]), if_neg c5, if_pos c6]]
           exact kept_app hlo st xs { x with e := { x.e with kind := 2, value := [] }, v := ⟨n2 + 1, 0, []⟩ } hxe hm (hmh _ _) (by omega) ((g3 _ _ _ kw (by omega)).trans ((hlow kw (by omega)).trans ((g1 _).trans hw))) (fun k hk => (g3 _ _ _ k hk).trans ((hlow k (by omega)).trans (g2 _ k hk))))
end Go.Proofs.Ytijhkfhflpmajaa
namespace Go.Proofs.Ytijhkfhflpmajaa
open Go Go.Sx Go.Rt Go.Proofs
theorem kept_tkOK (kw kt ko lo : Nat) (h : KSep kw kt ko lo) : TkOK (keptTk kw kt ko lo h) KSt.ok :=
  ⟨fun w st d H n ha hok h0 h1 hf => kept_group kw kt ko lo h w st d H n ha hok h0 h1 hf, fun w st H n ha hok => kept_older kw kt ko lo h w st H n ha hok, fun w st e b H n ha hok he => kept_mark kw kt ko lo h w st e b H n ha hok he⟩
theorem c_retain_walk_run (T : Tk Try.prog) (ok : T.σ → Prop) (hT : TkOK T ok) (M : Nat) (inv : Nat → T.σ → Prop) (hI : TkInv T ok M inv) (s : List Fml) (httl : ∀ f ∈ s, 0 ≤ f.ttl ∧ f.ttl ≤ 1099511627776)
    (l : List Ent) (w : Wlk) (st : T.σ) (H : Heap) (n : Nat) (ha : Ahead T H n w st) (hM : 2 * l.length + 2 ≤ M) (hl : l.length ≤ 1000000000000) (hst : inv 0 st) (hw : WRk s 0 w) (hg : ∀ e ∈ l, goodE s e) :
    ACalls Try.prog 44 [.loc T.kw 0 0 0 [], entsAV l] H n (LeftU T H n (runW T l w st).1 (runW T l w st).2) := by
  obtain ⟨hkw, hkeys, hw0, htk0⟩ := ha
  refine acalls_of_awp Try.func44 rfl Try.ntmps44 (congrArg Array.toList Try.results44) (by simp) ?_
  simp only [go_sem]
  refine awp_seq_k fun K1 hK1 => ?_
  refine awp_rq zs [0, 6, 7, 8] ?_
  refine awp_block ?_
  refine awp_loop (fun T' H' n' => ∃ (i : Nat) (w1 : Wlk) (s1 : T.σ), i ≤ l.length ∧ T' = tl [(0, .loc T.kw 0 0 0 []), (6, .sl 7 (l.map entAV)), (7, .int .i64 l.length), (8, .int .i64 i)] ∧ n ≤ n' ∧ H' T.kw = some (.arr 0 25 [walkAV T w1]) ∧ T.holds s1 H' n' ∧ (∀ k, k < n → k ≠ T.kw → ¬ T.keys k → H' k = H k) ∧ runP T (l.drop i) (w1, s1) = runP T l (w, st) ∧ inv (2 * i) s1 ∧ WRk s i w1) (fun T' _ _ => l.length - iv (T' 8)) ?_ ?_
  ·skip
   exact ⟨0, w, st, Nat.zero_le _, by rw [List.length_map]; rfl, Nat.le_refl _, hw0, htk0, fun k _ _ _ => rfl, rfl, hst, hw⟩
  intro T1 H1 n1
  rintro ⟨i, w1, s1, hi, rfl, hn, hwk, htk, hrest, hrun, hinv, hrk⟩
  refine awp_rq zs [0, 6, 7, 8, 9] ?_
  refine awp_seq_k fun K2 hK2 => ?_
  refine awp_cnd (fun hb => ?_) (fun hb => ?_)
  ·skip
   have hlt : i < l.length := by simpa using hb
   rw [drop_cons l i hlt, runP] at hrun
   have hmem : l.getD i default ∈ l := by simp [List.getD, List.getElem?_eq_getElem hlt]
   have hgood := hg _ hmem
   have hnth : nth (l.map entAV) i = entAV (l.getD i default) := nth_map entAV l i hlt
   refine awp_skip ?_
   try simp only [go_sem, seval]
   refine hK2 _ _ _ ?_
   first | clear hK2 K2 | skip
   refine awp_seq_k fun K3 hK3 => ?_
   refine awp_block ?_
   refine awp_reg zs [0, 5, 6, 7, 8] fun K hK => ?_
   try simp only [go_sem, seval, Int.toNat_natCast, hnth]
   repeat refine peel ?_
   refine hK _ _ _ ?_; clear hK K
   refine awp_reg1 zs [0, 6, 7, 8] fun K hK => ?_
   try simp only [go_sem, seval]
   repeat refine peel ?_
   refine callK_useK (args' := [.loc T.kw 0 0 0 [], entAV (l.getD i default)]) Try.func63 rfl rfl rfl (c_retain_walk_next T ok hT w1 s1 (l.getD i default) _ (n1 + 1) ⟨by omega, fun k hk => by have := hkeys k hk; omega, (Heap.put_ne _ _ (by omega)).trans hwk, T.ext s1 H1 _ n1 _ (by omega) (fun k hk _ => Heap.put_ne _ _ (by omega)) htk⟩ (hI.ok _ _ (by omega) hinv) (hI.ok _ _ (by omega) (hI.nt1 hinv)) (hrk.wok (by omega) httl) hgood.2.2.1) ?_ ?_
   rotate_left
   · intro p H' n' h; cases h.1
   intro r H2 n2 ⟨hr2, hL⟩
   cases hr2
   try simp only [go_sem, seval]
   repeat refine peel ?_
   refine hK _ _ _ ?_; clear hK K
   try simp only [go_sem, seval]
   refine hK3 _ _ _ ?_
   first | clear hK3 K3 | skip
   refine awp_reg1 zs [0, 6, 7, 8] fun K hK => ?_
   try simp only [go_sem, seval]
   repeat refine peel ?_
   refine hK _ _ _ ?_; clear hK K
   try simp only [go_sem, seval]
   have hle := hL.le
   refine ⟨⟨i + 1, _, _, by omega, by rw [Rt.w1 (by omega)], by omega, hL.walk, hL.tk, fun k hk h1 h2 => ?_, hrun, by have := hI.next (w := w1) (e := l.getD i default) hinv; exact this, by have := hrk.next hgood (by omega); exact this.mono (by omega)⟩, by rw [Rt.w1 (by omega)]; simp; omega⟩
   rw [hL.rest k (by omega) h1 h2]; exact (Heap.put_ne _ _ (by omega)).trans (hrest k hk h1 h2)
  ·skip
   have hge : i = l.length := by simp at hb; omega
   rw [hge, List.drop_length, runP] at hrun
   refine awp_exit ?_
   try simp only [go_sem, seval]
   refine hK1 _ _ _ ?_
   first | clear hK1 K1 | skip
   refine awp_reg1 zs [] fun K hK => ?_
   try simp only [go_sem, seval]
   repeat refine peel ?_
   refine callK_useK (args' := [.loc T.kw 0 0 0 []]) Try.func64 rfl rfl rfl (c_retain_walk_close T ok hT w1 s1 H1 n1 ⟨by omega, fun k hk => by have := hkeys k hk; omega, hwk, htk⟩ (hI.ok _ _ (by omega) hinv) (hrk.wok (by omega) httl)) ?_ ?_
   rotate_left
   · intro p H' n' h; cases h.1
   intro r H2 n2 ⟨hr2, hL⟩
   cases hr2
   try simp only [go_sem, seval]
   repeat refine peel ?_
   refine hK _ _ _ ?_; clear hK K
   try simp only [go_sem, seval]
   try simp only [go_sem, seval]
   refine ⟨rfl, ?_⟩
   unfold runW; rw [← hrun]
   exact hL.up hn hrest
theorem c_retain_keeping (s : List Fml) (clock low : Int) (major : Bool) (H : Heap) (n : Nat) :
    ACalls Try.prog 43 [schAV s, .int .i64 clock, .bool major, .int .i64 low] H n fun res H' n' => ∃ (kw kt ko lo : Nat) (h : KSep kw kt ko lo), res = .val (.tup [.loc kw 0 0 0 [], .loc kt 0 0 0 []]) ∧ n ≤ kw ∧ n ≤ kt ∧ n ≤ ko ∧ n ≤ n' ∧ lo = n' ∧ Ahead (keptTk kw kt ko lo h) H' n' (wlk0 s clock) (kst0 major low) ∧ ∀ k, k < n → H' k = H k := by
  refine acalls_of_awp Try.func43 rfl Try.ntmps43 (congrArg Array.toList Try.results43) (by simp) ?_
  simp only [go_sem]
  refine awp_rq zs [1, 2, 3, 4] ?_
  refine awp_rq zs [1, 4, 10] ?_
  refine awp_rq zs [10] ?_
  refine awp_wk_obj (n + 2) (els' := [walkAV (keptTk (n + 2) (n + 1) (n + 3) (n + 4) ⟨by omega, by omega, by omega, by omega, by omega, by omega⟩) (wlk0 s clock)]) ((Heap.put_ne _ _ (by omega)).trans (Heap.put_same _ _ _)) ⟨Wk.agg ⟨.refl _, .refl _, .refl _, .refl _, Wk.agg ⟨Wk.nilsl 1, .refl _, Wk.nilsl 1, .refl _, .refl _, .refl _, Wk.nilsl 1, trivial⟩, .refl _, .refl _, .refl _, .refl _, Wk.agg ⟨Wk.agg ⟨Wk.nilsl 1, .refl _, Wk.nilsl 1, .refl _, .refl _, .refl _, Wk.nilsl 1, trivial⟩, .refl _, trivial⟩, trivial⟩, trivial⟩ ?_
  refine awp_adopt_obj (n + 1) 7 (els' := [keptAV (n + 2) (n + 3) (kst0 major low)]) ((Heap.put_ne _ _ (by omega)).trans (Heap.put_same _ _ _)) ⟨Adp.agg ⟨.refl _ _, .refl _ _, Adp.nilsl _, .refl _ _, .refl _ _, trivial⟩, trivial⟩ ?_
  refine awp_reg zs [8, 9] fun K hK => ?_
  try simp only [go_sem, seval, keptAV]
  repeat refine peel ?_
  refine hK _ _ _ ?_; clear hK K
  refine awp_ret ?_
  try simp only [go_sem, seval]
  refine ⟨n + 2, n + 1, n + 3, n + 4, ⟨by omega, by omega, by omega, by omega, by omega, by omega⟩, rfl, by omega, by omega, by omega, by omega, rfl, ⟨by simp [keptTk], fun k hk => by rcases hk with rfl | rfl <;> omega, ?_, by omega, ?_, [], rfl, ?_, MineL.nil _ _ _⟩, fun k hk => ?_⟩
  · simp [Heap.put, keptTk, walkAV, tkAV, wlk0, schAV, entAV, bys]
  · simp [Heap.put, keptTk, keptAV, kst0]
  · simp [Heap.put]
  · have h0 : k ≠ n := by omega
    have h1 : ∀ j, k ≠ n + j := fun j => by omega
    have h2 : ∀ i j, k ≠ n + i + j := fun i j => by omega
    simp [Heap.put, h0, h1, h2]
end Go.Proofs.Ytijhkfhflpmajaa
namespace Go.Proofs.Ytijhkfhflpmajaa
open Go Go.Sx Go.Rt Go.Proofs
theorem goodE_of {s : List Fml} {e : Ent} (h : checkedE s e = 0) : goodE s e := by
  obtain ⟨h1, h2⟩ := checkedE_zero h
  have hf := fits_of h1
  unfold checkE at h1
  repeat' split at h1
  all_goals first | (exact absurd h1 (by decide)) | skip
  rename_i g1 g2 g3 g4 g5 g6 g7
  have g2 := bout_false (Bool.eq_false_iff.2 g2)
  have g4 := bout_false (Bool.eq_false_iff.2 g4)
  exact ⟨by omega, h2, hf, by omega, by omega⟩
theorem ttl_of {s : List Fml} (h : schemaE s = 0) : ∀ f ∈ s, 0 ≤ f.ttl ∧ f.ttl ≤ 1099511627776 := by
  unfold schemaE at h
  split at h
  · exact absurd h (by decide)
  split at h
  · exact absurd h (by decide)
  rename_i h1 h2
  have key : ∀ (all l : List Fml) (i : Nat), famsBad all l i = false → ∀ f ∈ l, 0 ≤ f.ttl ∧ f.ttl ≤ 1099511627776 := by
    intro all l
    induction l with
    | nil => intro i _ f hf; cases hf
    | cons x l ih =>
      intro i h f hf
      rw [famsBad_cons] at h
      simp only [Bool.or_eq_false_iff] at h
      rcases List.mem_cons.1 hf with rfl | hf
      · have := h.1
        simp only [famBad, Bool.or_eq_false_iff] at this
        have := bout_false this.2
        omega
      · exact ih _ h.2 f hf
  exact key s s 0 (Bool.eq_false_iff.2 h2)
theorem boundsE_zero {s : List Fml} {clock : Int} {times : List Int} {k : Int} (h : boundsE s clock times k = 0) : schemaE s = 0 ∧ timesBad (clock :: times) = false ∧ bout k 1 16 = false := by
  unfold boundsE at h
  split at h
  · rename_i h1; exact absurd h h1
  split at h
  · exact absurd h (by decide)
  split at h
  · exact absurd h (by decide)
  rename_i h1 h2 h3
  exact ⟨by simpa using h1, Bool.eq_false_iff.2 h2, Bool.eq_false_iff.2 h3⟩
theorem sortedE_mem {l m : List Ent} (h : ddE [] l = some m) : ∀ e ∈ stabL ltE m, e ∈ l := by
  intro e he
  have := (stabL_mem m e).1 he
  rcases ddE_sub l [] m h e this with h | h
  · cases h
  · exact h
theorem prepE_zero {s : List Fml} {clock : Int} {times : List Int} {k : Int} {l : List Ent} (h : (prepE s clock times k l).2 = 0) :
    boundsE s clock times k = 0 ∧ badsE s l = 0 ∧ prepE s clock times k l = sortedE l ∧ (∀ e ∈ (prepE s clock times k l).1, e ∈ l ∧ checkedE s e = 0) ∧ (prepE s clock times k l).1.length ≤ l.length := by
  unfold prepE at h ⊢
  by_cases h1 : boundsE s clock times k ≠ 0
  · rw [if_pos h1] at h; exact absurd h h1
  · rw [if_neg h1] at h ⊢
    by_cases h2 : badsE s l ≠ 0
    · rw [if_pos h2] at h; exact absurd h h2
    · rw [if_neg h2] at h ⊢
      have h2 : badsE s l = 0 := by simpa using h2
      refine ⟨by simpa using h1, h2, rfl, ?_⟩
      unfold sortedE at h ⊢
      cases hd : ddE [] l with
      | none => rw [hd] at h; exact absurd h (by decide)
      | some m =>
        refine ⟨fun e he => ?_, ?_⟩
        · have := sortedE_mem hd e he
          exact ⟨this, badsE_fits s l h2 e this⟩
        · show (stabL ltE m).length ≤ _
          rw [stabL_length]
          have := ddE_length l [] m hd
          simpa using this
def kInv (i : Nat) (st : KSt) : Prop := 0 ≤ st.older ∧ 0 ≤ st.masked ∧ 0 ≤ st.expired ∧ 0 ≤ st.above ∧ 0 ≤ st.marks ∧ st.older + st.masked + st.expired + st.above + st.marks + st.out.length ≤ i
theorem kept_inv (kw kt ko lo : Nat) (h : KSep kw kt ko lo) : TkInv (keptTk kw kt ko lo h) KSt.ok 1000000000000 kInv where
  ok := fun i st hi ⟨h1, h2, h3, h4, h5, h6⟩ => ⟨h1, h2, h3, h4, h5, by omega⟩
  up := fun i st ⟨h1, h2, h3, h4, h5, h6⟩ => ⟨h1, h2, h3, h4, h5, by omega⟩
  g := fun i s st d ⟨h1, h2, h3, h4, h5, h6⟩ => by
    show kInv _ (keptG s st d)
    unfold keptG
    repeat' split
    all_goals (refine ⟨?_, ?_, ?_, ?_, ?_, ?_⟩ <;> simp <;> omega)
  o := fun i st ⟨h1, h2, h3, h4, h5, h6⟩ => by
    show kInv _ (keptO st)
    refine ⟨?_, ?_, ?_, ?_, ?_, ?_⟩ <;> simp [keptO] <;> omega
  m := fun i st e b ⟨h1, h2, h3, h4, h5, h6⟩ => by
    show kInv _ (keptM st e b)
    unfold keptM
    split <;> (refine ⟨?_, ?_, ?_, ?_, ?_, ?_⟩ <;> simp <;> omega)
theorem kept_run (kw kt ko lo : Nat) (h : KSep kw kt ko lo) (s : List Fml) (clock low : Int) (major : Bool) (m : List Ent) :
    (runW (keptTk kw kt ko lo h) m (wlk0 s clock) (kst0 major low)).2 = keptOf s clock major low m := runW_ev _ m _ _
theorem kInv0 (major : Bool) (low : Int) : kInv 0 (kst0 major low) := by simp [kInv, kst0]
theorem wrk0 (s : List Fml) (clock : Int) : WRk s 0 (wlk0 s clock) := ⟨rfl, fun h => by simp [wlk0] at h, Int.le_refl _, Int.le_refl _⟩
theorem u_retain_Squash (s : List Fml) (clock low : Int) (major : Bool) (l : List Ent) (hl : l.length ≤ 100000000) (H : Heap) (n : Nat) :
    ACalls Try.prog 15 [schAV s, .int .i64 clock, .bool major, .int .i64 low, entsAV l] H n (AnsK n H (squashE s clock major low l).1 (squashE s clock major low l).2) := by
  refine acalls_of_awp Try.func15 rfl Try.ntmps15 (congrArg Array.toList Try.results15) (by simp) ?_
  simp only [go_sem]
  refine awp_rq zs [1, 2, 3, 4, 5] ?_
  refine awp_reg zs [1, 2, 3, 4, 5, 12] fun K hK => ?_
  try simp only [go_sem, seval]
  repeat (first | (refine And.intro ?_ ?_; · first | exact ⟨rfl, by simp [AV.sz, AV.memOK]⟩) | refine peel ?_)
  refine callK_use Try.func42 rfl rfl rfl ((c_retain_prepare s clock [low] (by simp) 1 l (by omega) _ _)) ?_
  try simp only [go_sem, seval]
  repeat (first | (refine And.intro ?_ ?_; · first | exact ⟨rfl, by simp [AV.sz, AV.memOK]⟩) | refine peel ?_)
  refine hK _ _ _ ?_; clear hK K
  refine awp_seq_k fun K1 hK1 => ?_
  refine awp_rq zs [1, 2, 3, 4, 5, 12, 25] ?_
  refine awp_cnd (fun hb => ?_) (fun hb => ?_)
  ·skip
   have hne : (prepE s clock [low] 1 l).2 ≠ 0 := by simpa using hb
   have hq : squashE s clock major low l = ([], (prepE s clock [low] 1 l).2) := by unfold squashE; rw [if_pos hne]
   refine awp_rq zs [10, 11] ?_
   refine awp_ret ?_
   try simp only [go_sem, seval]
   rw [hq]
   first
   | exact ⟨_, rfl, AnsU.nil _ _ _, by omega, fun k hk => Heap.put_ne _ _ (by omega)⟩
   | (have hle3 := hL.le
      have hf9 := hh.f
      refine ⟨_, rfl, .inr ⟨ko, xs.length, xs, by rw [← hxe]; simp, hxe, hh2, by omega, by omega, hm3.low (by omega), fun hin => by have := (hm3.in' hin).1; omega⟩, by omega, fun k hk => ?_⟩
      rw [hL.rest k (by omega) (show k ≠ kw by omega) (fun h => by rcases h with h | h <;> omega), hlow k (by omega), Heap.put_ne _ _ (by omega)])
  ·skip
   have hne : (prepE s clock [low] 1 l).2 = 0 := by simpa using hb
   have hq : squashE s clock major low l = ((keptOf s clock major low (prepE s clock [low] 1 l).1).out, 0) := by unfold squashE; rw [if_neg (by simp [hne])]
   obtain ⟨hbz, _, _, hmem, hlen⟩ := prepE_zero hne
   generalize (prepE s clock [low] 1 l).1 = m at *
   refine awp_skip ?_
   try simp only [go_sem, seval]
   refine hK1 _ _ _ ?_
   first | clear hK1 K1 | skip
   refine awp_reg zs [4, 13, 14] fun K hK => ?_
   try simp only [go_sem, seval]
   repeat refine peel ?_
   refine callK_useK (args' := [schAV s, .int .i64 clock, .bool major, .int .i64 low]) Try.func43 rfl rfl rfl (c_retain_keeping s clock low major _ (n + 1)) ?_ ?_
   rotate_left
   · intro p H' n' h; obtain ⟨kw, kt, ko, lo, hh, hres, _⟩ := h; cases hres
   rintro r H2 n2 ⟨kw, kt, ko, lo, hh, hres, hkw, hkt, hko, hn2, hlo2, hah, hlow⟩
   cases hres
   try simp only [go_sem, seval]
   repeat refine peel ?_
   refine hK _ _ _ ?_; clear hK K
   refine awp_reg zs [14] fun K hK => ?_
   try simp only [go_sem, seval]
   repeat refine peel ?_
   refine callK_useK (args' := [.loc kw 0 0 0 [], entsAV m]) Try.func44 rfl rfl rfl (c_retain_walk_run (keptTk kw kt ko lo hh) KSt.ok (kept_tkOK kw kt ko lo hh) 1000000000000 kInv (kept_inv kw kt ko lo hh) s (ttl_of (boundsE_zero hbz).1) m (wlk0 s clock) (kst0 major low) H2 n2 hah (by omega) (by omega) (kInv0 major low) (wrk0 s clock) (fun e he => goodE_of (hmem e he).2)) ?_ ?_
   rotate_left
   · intro p H' n' h; cases h.1
   rintro r H3 n3 ⟨hr3, hL⟩
   cases hr3
   obtain ⟨hlo3, hh1, xs, hxe, hh2, hm3⟩ := hL.tk
   rw [kept_run] at hh1 hxe
   simp only [keptAV] at hh1
   try simp only [go_sem, seval]
   repeat refine peel ?_
   refine hK _ _ _ ?_; clear hK K
   refine awp_reg zs [10, 11] fun K hK => ?_
   try simp only [go_sem, seval, hh1]
   repeat refine peel ?_
   refine hK _ _ _ ?_; clear hK K
   refine awp_ret ?_
   try simp only [go_sem, seval]
   rw [hq]
   first
   | exact ⟨_, rfl, AnsU.nil _ _ _, by omega, fun k hk => Heap.put_ne _ _ (by omega)⟩
   | (have hle3 := hL.le
      have hf9 := hh.f
      refine ⟨_, rfl, .inr ⟨ko, xs.length, xs, by rw [← hxe]; simp, hxe, hh2, by omega, by omega, hm3.low (by omega), fun hin => by have := (hm3.in' hin).1; omega⟩, by omega, fun k hk => ?_⟩
      rw [hL.rest k (by omega) (show k ≠ kw by omega) (fun h => by rcases h with h | h <;> omega), hlow k (by omega), Heap.put_ne _ _ (by omega)])
theorem c_retain_Squash (s : List Fml) (clock low : Int) (major : Bool) (l : List Ent) (hl : l.length ≤ 100000000) (H : Heap) (n : Nat) :
    Ret Try.prog 15 [schAV s, .int .i64 clock, .bool major, .int .i64 low, entsAV l] H n (.tup [entsAV (squashE s clock major low l).1, .int .i64 (squashE s clock major low l).2]) H n := AnsK.fin (u_retain_Squash s clock low major l hl H n)
theorem o_retain_Squash (s : List Fml) (clock low : Int) (major : Bool) (l : List Ent) (hl : l.length ≤ 100000000) (H : Heap) (n : Nat) :
    ACalls Try.prog 15 [schAV s, .int .i64 clock, .bool major, .int .i64 low, entsAV l] H n (AnsO n H (squashE s clock major low l).1 (squashE s clock major low l).2) := AnsK.own (u_retain_Squash s clock low major l hl H n)
theorem keptG_len (f : List Fml) (st : KSt) (d : Dec) : (keptG f st d).out.length ≤ st.out.length + 1 := by
  unfold keptG; repeat' split
  all_goals simp
theorem keptM_len (st : KSt) (e : Ent) (b : Bool) : (keptM st e b).out.length ≤ st.out.length + 1 := by
  unfold keptM; split <;> simp
theorem evT_len (f : List Fml) : ∀ (l : List Ev) (st : KSt), (l.foldl (evT (keptG f) keptO keptM) st).out.length ≤ st.out.length + l.length := by
  intro l
  induction l with
  | nil => intro st; simp
  | cons v l ih =>
    intro st
    rw [List.foldl_cons]
    have h1 := ih (evT (keptG f) keptO keptM st v)
    have h2 : (evT (keptG f) keptO keptM st v).out.length ≤ st.out.length + 1 := by
      cases v with
      | g d => exact keptG_len f st d
      | o => show st.out.length ≤ _; omega
      | m e b => exact keptM_len st e b
    simp only [List.length_cons]
    omega
theorem closeV_len (w : Wlk) : (closeV w).length ≤ 1 := by unfold closeV; split <;> simp
theorem evN_len (w : Wlk) (e : Ent) : (evN w e).length ≤ 2 := by
  unfold evN ev1 ev5
  have := closeV_len w
  simp only [List.length_append]
  have h1 : (bif endsE w e then closeV w else []).length ≤ 1 := by cases endsE w e <;> simp; exact this
  have h2 : ∀ w' : Wlk, (if e.kind = 5 then [Ev.m e (w'.famMask == 0)] else if e.kind = 4 then [Ev.m e (bif w'.colMask == 0 then decide (w'.famMask < e.ts) else false)] else if w'.opn = false then [] else [Ev.o]).length ≤ 1 := by
    intro w'; repeat' split
    all_goals simp
  have := h2 (nx4 (nx3 (nx2 (nx1 w e) e) e) e)
  omega
theorem evP_len : ∀ (l : List Ent) (w : Wlk), (evP l w).length ≤ 2 * l.length + 1 := by
  intro l
  induction l with
  | nil => intro w; exact closeV_len w
  | cons e l ih =>
    intro w
    rw [evP, List.length_append]
    have := ih (nextW w e)
    have := evN_len w e
    simp only [List.length_cons]
    omega
theorem squashE_length (s : List Fml) (clock : Int) (major : Bool) (low : Int) (l : List Ent) : (squashE s clock major low l).1.length ≤ 2 * l.length + 1 := by
  unfold squashE
  split
  · simp
  · rename_i h
    obtain ⟨_, _, _, _, hlen⟩ := prepE_zero (by simpa using h)
    have h1 := evT_len s (evP (prepE s clock [low] 1 l).1 (wlk0 s clock)) (kst0 major low)
    have h2 := evP_len (prepE s clock [low] 1 l).1 (wlk0 s clock)
    show (keptOf s clock major low _).out.length ≤ _
    unfold keptOf
    have h3 : (kst0 major low).out.length = 0 := rfl
    omega
end Go.Proofs.Ytijhkfhflpmajaa