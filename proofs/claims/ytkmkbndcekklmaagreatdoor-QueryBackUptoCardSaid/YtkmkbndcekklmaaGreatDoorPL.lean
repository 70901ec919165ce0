/- Own layer: rows put in order, of each row the first; walked. Of the program; no condition. -/
import Derived.Test.YtkmkbndcekklmaaGreatDoorPK
import Derived.Test.YtkmkbndcekklmaaGreatDoorPF
set_option linter.unusedSimpArgs false
set_option linter.unusedVariables false
set_option maxRecDepth 10000
namespace Go.Proofs.YtkmkbndcekklmaaGreatDoor
open Go Go.Sx Go.Rt Go.Proofs Tryz
theorem NT70.eqs {P Q : Prop} (g : Imp P Q := by (try simp only [go_sem, seval, e1, e2, e3, e4, g1, g2, g3, g4, g5, g6, hst, Nat.add_assoc]); exact N9) : Imp P Q := g
theorem NT70.inz {P Q : Prop} (g : Imp P Q := by refine Imp.up eqs ?_; (repeat (first | (refine Imp.nd ?_ ?_; · first | exact ⟨rfl, fun x hx => by simp only [List.mem_cons, List.not_mem_nil, or_false] at hx; rcases hx with rfl | rfl <;> exact ⟨rfl, rfl⟩⟩ | exact ⟨1, rfl, rfl⟩) | refine Imp.pl ?_)); exact N9) : Imp P Q := g
set_option maxHeartbeats 1600000 in
open NT70 in
theorem x_law13_plain (H : Heap) (n : Nat) : Zn prog 17 [] H n (fun res H' n' => res = .val (.osl n 3 0 3) ∧ H' n = some (.arr 3 2 (ZL.map Zg)) ∧ (∀ k, k < n → H' k = H k) ∧ n' = n + 19) := by
 have e1 : n = n := rfl
 have e2 : n = n := rfl
 have e3 : n = n := rfl
 have e4 : n = n := rfl
 have g6 : n = n := rfl
 have hst : n = n := rfl
 have g1 : ∀ k : Nat, (k = k + 1) = False := fun k => by simp
 have g2 : ∀ k : Nat, (k = k + 2) = False := fun k => by simp
 have g3 : ∀ k : Nat, (k = k + 3) = False := fun k => by simp
 have g4 : ∀ k : Nat, (k = k + 4) = False := fun k => by simp
 have g5 : ∀ k : Nat, (k = k + 5) = False := fun k => by simp
 refine fw func17 ntmps17 results17 ?_
 refine rg zs [] ?_
 refine rg zs [1] ?_
 refine Za fun K1 hK1 => ?_
 refine Z8 1 2 rfl ?_
 refine rg zs [1, 2] ?_
 refine Zy ?_
 refine Zp (fun T' H' n' => ∃ i : Nat, i ≤ 3 ∧ T' = tl [(1, .osl n i 0 i), (2, .int .i64 i)] ∧ H' n = some (.arr i 2 ((ZL.take i).map Zg)) ∧ (∀ k, k < n → H' k = H k) ∧ n' = n + 1 + 6 * i) (fun T' _ _ => 3 - iv (T' 2)) ?_ ?_
 ·exact ⟨0, by omega, rfl, by (try simp only [N7]); (repeat first | rw [if_pos rfl] | rw [if_pos trivial] | rw [if_neg (by omega)]); rfl, fun k hk => by (try simp only [N7]); (repeat first | rw [if_pos rfl] | rw [if_pos trivial] | rw [if_neg (by omega)]), rfl⟩
 rintro T1 H1 n1 ⟨i, hi, rfl, b1, hlow, hn1⟩
 refine Za fun K2 hK2 => ?_
 refine rg zs [1, 2, 5] ?_
 refine Zb ?_ ?_ <;> intro hb
 ·have hci : i < 3 := by have := of_decide_eq_true hb; omega
  have e1 : IntKind.i64.wrap (49 + (i : Int)) = ((49 + i : Nat) : Int) := by rw [w64 (by omega) (by omega)]; omega
  have e2 : IntKind.u8.wrap ((49 + i : Nat) : Int) = ((49 + i : Nat) : Int) := by rcases i with _ | _ | _ | i <;> first | rfl | omega
  have e3 : IntKind.i64.wrap ((i : Int) + 1) = ((i + 1 : Nat) : Int) := w1 (by omega)
  have e4 : (n = n1) = False := by simp; omega
  refine ak ?_
  apply hK2
  refine bk fun K3 hK3 => ?_
  refine rg zs [1, 2, 3] ?_
  refine rg zo [1, 2, 3] ?_
  refine VR (n1 + 5) n1 (ver := 0) (e := 4) (els := (YV i).cells.map Zo) (vj := 0) (ej := 2) (lj := [.agg [.sl 1 [.int .u8 114, .int .u8 ((49 + i : Nat) : Int)], .osl (n1 + 5) 0 0 2]]) (lj' := [Zg (YV i)]) (by (try simp only [N7]); (repeat first | rw [if_pos rfl] | rw [if_pos trivial] | rw [if_neg (by omega)]); rfl) (by (try simp only [N7]); (repeat first | rw [if_pos rfl] | rw [if_pos trivial] | rw [if_neg (by omega)])) (by omega) ⟨FzV.agg ⟨?_, FzV.osl (off := 0) (len := 2) (by simp [YV]), trivial⟩, trivial⟩ ?_
  ·rw [← MP hci]; exact .refl _
  have g6 : ∀ j : Nat, (n = n1 + j) = False := fun j => by simp; omega
  have hst : strip true (Zg (YV i)) = Zg (YV i) := rfl
  have hl : (List.map Zg (List.take i ZL)).length = i := by rw [List.length_map, List.length_take, show ZL.length = 3 from rfl]; omega
  have hrs := VA (YV i)
  have hrm : (Zg (YV i)).memOK = true := rfl
  have hra : (Zg (YV i)).isAgg = true := rfl
  refine ZG zs [1, 2] fun K V => ?_
  try simp only [go_sem, seval, e1, e2, e3, e4, g1, g2, g3, g4, g5, g6, hst, Nat.add_assoc, hrs, hrm, hra, b1]
  repeat (first | (refine And.intro ?_ ?_; · first | exact ⟨by omega, .inr trivial, by omega, by omega⟩ | exact ⟨rfl, fun x hx => by rw [List.mem_singleton.1 hx]; exact ⟨hrs, hrm⟩⟩) | refine peel ?_)
  apply V; clear V K
  refine ns ?_
  apply hK3
  refine rg1 zs [1, 2] ?_
  refine ⟨⟨i + 1, by omega, rfl, ?_, fun k hk => by (try simp only [N7]); (repeat first | rw [if_pos rfl] | rw [if_pos trivial] | rw [if_neg (by omega)]); exact hlow k hk, by omega⟩, by omega⟩
  rw [Uw ZL (show i < ZL.length from hci), plain_at hci]
  (try simp only [N7]); (repeat first | rw [if_pos rfl] | rw [if_pos trivial] | rw [if_neg (by omega)])
  rw [List.take_of_length_le (by omega), List.map_append]; rfl
 have hci : i = 3 := by have := of_decide_eq_false hb; omega
 subst hci
 refine ax ?_
 apply hK1
 refine rg zs [0] ?_
 refine ar ?_
 exact ⟨b1, hlow, by omega⟩
def W9 (nf : Nat) (c : CelE) : Bool := decide (0 ≤ c.fam) && decide (c.fam < (nf : Int))
def Mm (nf : Nat) (x : RowE) : RowE := ⟨x.row, x.cells.filter (W9 nf)⟩
def posN (l : List RowE) (r : List UInt8) : Nat := (l.takeWhile fun y => decide (Lib.compareBytes y.row r < 0)).length
def putN (l : List RowE) (r : RowE) : List RowE :=
 if posN l r.row < l.length ∧ (l.getD (posN l r.row) default).row = r.row then l else l.take (posN l r.row) ++ [r] ++ l.drop (posN l r.row)
def Uy (nf : Nat) (l : List RowE) (x : RowE) : List RowE := if x.row.length < 1 ∨ 256 < x.row.length then l else putN l (Mm nf x)
def J7 (nf : Nat) (l : List RowE) : List RowE := l.foldl (Uy nf) []
def Jq (nf : Nat) (l : List RowE) : List RowE := J7 nf (l.take 40)
theorem putN_len (l : List RowE) (r : RowE) : (putN l r).length ≤ l.length + 1 := by
 unfold putN
 split
 ·omega
 ·simp; omega
theorem stepN_len (nf : Nat) (l : List RowE) (x : RowE) : (Uy nf l x).length ≤ l.length + 1 := by
 unfold Uy
 split
 ·omega
 ·exact putN_len _ _
theorem foldN_len (nf : Nat) : ∀ (m l : List RowE), (m.foldl (Uy nf) l).length ≤ l.length + m.length
 | [], l => osi
 | x :: m, l => by
   rw [List.foldl_cons, List.length_cons]
   have := foldN_len nf m (Uy nf l x)
   have := stepN_len nf l x
   omega
theorem neatF_len (nf : Nat) (l : List RowE) : (J7 nf l).length ≤ l.length := by have := foldN_len nf l []; simpa [J7] using this
theorem neatF_snoc (nf : Nat) {l : List RowE} {i : Nat} (h : i < l.length) : J7 nf (l.take (i + 1)) = Uy nf (J7 nf (l.take i)) (l.getD i default) := by
 unfold J7
 rw [List.take_succ_eq_append_getElem h, List.foldl_append]
 simp [List.getD, h]
theorem posN_is {l : List RowE} {r : List UInt8} {a : Nat} (ha : a ≤ l.length) (h1 : ∀ j, j < a → Lib.compareBytes (l.getD j default).row r < 0) (h2 : a = l.length ∨ ¬ Lib.compareBytes (l.getD a default).row r < 0) : posN l r = a := by
 unfold posN
 induction l generalizing a with
 | nil => simp at ha; simp [ha]
 | cons y l ih =>
   cases a with
   | zero =>
     rcases h2 with h2 | h2
     ·simp at h2
     ·rw [List.takeWhile_cons_of_neg (by simpa using h2)]; rfl
   | succ a =>
     have h0 := h1 0 om
     rw [List.takeWhile_cons_of_pos (by simpa using h0), List.length_cons]
     congr 1
     exact ih (by simpa using ha) (fun j hj => by have := h1 (j + 1) om; simpa using this) (by rcases h2 with h2 | h2; exact .inl (by simpa using h2); exact .inr (by simpa using h2))
theorem fz_cels {k ver : Nat} (l : List CelE) : FzV k ver 4 (l.map Zo) (.osl k ver 0 l.length) (.sl 4 (l.map Zo)) := by
 have h := FzV.osl (k := k) (ver := ver) (e := 4) (els := l.map Zo) (off := 0) (len := l.length) osi
 rwa [List.drop_zero, List.take_of_length_le osi] at h
theorem fz_rows {k ver : Nat} (l : List RowE) : FzV k ver 2 (l.map Zg) (.osl k ver 0 l.length) (.sl 2 (l.map Zg)) := by
 have h := FzV.osl (k := k) (ver := ver) (e := 2) (els := l.map Zg) (off := 0) (len := l.length) osi
 rwa [List.drop_zero, List.take_of_length_le osi] at h
theorem NT71.eqs {P Q : Prop} (g : Imp P Q := by (try simp only [go_sem, seval, hszs, hags, hmos, hszr, hagr, hmor, hszc, hagc, hmoc, b1, b2, b3, hnth, hntc, hntl, e1, e2, e3, g1, g2, g3, g4, g5, g6, Nat.add_assoc, List.length_map, Int.toNat_natCast, Zr]); exact N9) : Imp P Q := g
theorem NT71.inz {P Q : Prop} (g : Imp P Q := by refine Imp.up eqs ?_; (repeat (first | (refine Imp.nd ?_ ?_; · first | (intros; simp_all; done)) | refine Imp.pl ?_)); exact N9) : Imp P Q := g
set_option maxHeartbeats 6400000 in
open NT71 in
theorem c_law13_neat (fs : List Fml) (hfs : fs.length ≤ 1048576) (l : List RowE) (hl : YP l) (H : Heap) (n : Nat) : Ret prog 16 [Zi fs, .sl 2 (l.map Zg)] H n (.sl 2 ((Jq fs.length l).map Zg)) H n := by
 have hszs : (Zi fs).sz = 1 := rfl
 have hags : (Zi fs).isAgg = true := rfl
 have hmos : (Zi fs).memOK = true := rfl
 have hszr : ∀ r, (Zg r).sz = 2 := VA
 have hagr : ∀ r, (Zg r).isAgg = true := fun _ => rfl
 have hmor : ∀ r, (Zg r).memOK = true := fun _ => rfl
 have hszc : ∀ r, (Zo r).sz = 4 := Xr
 have hagc : ∀ r, (Zo r).isAgg = true := fun _ => rfl
 have hmoc : ∀ r, (Zo r).memOK = true := fun _ => rfl
 have hls := hl.1
 have hlt : ∀ a b : List UInt8, Op.bytesLess a b = decide (Lib.compareBytes a b < 0) := fun a b => (WM a b).2
 obtain ⟨N, hN⟩ : ∃ N : Nat → List RowE, N = fun i => J7 fs.length (l.take i) := ⟨_, rfl⟩
 have hNl : ∀ i, (N i).length ≤ i := fun i => by rw [hN]; exact Nat.le_trans (neatF_len _ _) (by rw [List.length_take]; omega)
 have b1 := hls
 have b2 := hls
 have b3 := hls
 have hnth := hls
 have hntc := hls
 have hntl := hls
 have e1 := hls
 have e2 := hls
 have e3 := hls
 have g1 := hls
 have g2 := hls
 have g3 := hls
 have g4 := hls
 have g5 := hls
 have g6 := hls
 refine Ret.fin ?_
 refine fw func16 ntmps16 results16 ?_
 refine rg zs [1, 2] ?_
 refine rg zs [1, 2, 5] ?_
 refine Za fun K1 hK1 => ?_
 refine rg zs [1, 2, 5, 6] ?_
 refine Zy ?_
 refine NM 5 (.sl 2 []) (.nilsl 2) ?_
 refine YC [1, 2, 5, 6] ?_
 refine ns ?_
 refine Zp (fun T' H' n' => ∃ i : Nat, i ≤ l.length ∧ i ≤ 40 ∧ T' = tl [(1, .sl 2 (l.map Zg)), (2, .loc n 0 0 0 []), (5, .sl 2 ((N i).map Zg)), (6, .int .i64 i)] ∧ H' n = some (.arr 0 1 [Zi fs]) ∧ (∀ k, k < n → H' k = H k) ∧ n + 1 ≤ n') (fun T' _ _ => l.length - iv (T' 6)) ?_ ?_
 ·exact ⟨0, Nat.zero_le _, Nat.zero_le _, by rw [hN]; rfl, by first | ((try simp only [N7]); (repeat first | rw [if_pos rfl] | rw [if_pos trivial] | rw [if_neg (by omega)]); done) | ((try simp only [N7]); (repeat first | rw [if_pos rfl] | rw [if_pos trivial] | rw [if_neg (by omega)]); rfl), fun k hk => by (try simp only [N7]); (repeat first | rw [if_pos rfl] | rw [if_pos trivial] | rw [if_neg (by omega)]), by omega⟩
 rintro T1 H1 n1 ⟨i, hi, hi40, rfl, b1, hlow, hn1⟩
 refine Za fun K2 hK2 => ?_
 refine rg zs [1, 2, 5, 6, 19] ?_
 refine Zb ?_ ?_ <;> intro hb
 ·have hc2 := Vf hb
  have hci : i < l.length := by have := of_decide_eq_true hc2.1; omega
  have hcj : i < 40 := by have := of_decide_eq_true hc2.2; omega
  have hnth : nth (l.map Zg) i = Zg (l.getD i default) := Zx Zg l i hci
  have e1 : IntKind.i64.wrap ((i : Int) + 1) = ((i + 1 : Nat) : Int) := w1 (by omega)
  have hxb := hl.2 _ (YH l hci)
  have hNs : N (i + 1) = Uy fs.length (N i) (l.getD i default) := by rw [hN]; exact neatF_snoc _ hci
  obtain ⟨x, hx⟩ : ∃ x, x = l.getD i default := ⟨_, rfl⟩
  rw [← hx] at hnth hxb hNs
  clear hx
  have hNi := hNl i
  obtain ⟨L, hL⟩ : ∃ L, L = N i := ⟨_, rfl⟩
  rw [← hL] at hNs hNi ⊢
  have g1 : (n = n1) = False := by simp; omega
  have g2 : (n = n1 + 1) = False := by simp; omega
  have g3 : (n1 = n1 + 1) = False := by simp
  have g4 : (n1 + 1 = n1) = False := by simp
  refine ak ?_
  apply hK2
  refine bk fun K3 hK3 => ?_
  refine Ze zs [1, 2, 5, 6, 7] fun K V => ?_
  try simp only [go_sem, seval, hszs, hags, hmos, hszr, hagr, hmor, hszc, hagc, hmoc, b1, b2, b3, hnth, hntc, hntl, e1, e2, e3, g1, g2, g3, g4, g5, g6, Nat.add_assoc, List.length_map, Int.toNat_natCast, Zr, Zg]
  repeat (first | (refine And.intro ?_ ?_; · first | exact ⟨by omega, by omega⟩) | refine peel ?_)
  refine Zt func23 rfl rfl rfl ((Xa x.row hxb.1 _ _)) ?_
  try simp only [go_sem, seval, hszs, hags, hmos, hszr, hagr, hmor, hszc, hagc, hmoc, b1, b2, b3, hnth, hntc, hntl, e1, e2, e3, g1, g2, g3, g4, g5, g6, Nat.add_assoc, List.length_map, Int.toNat_natCast, Zr, Zg]
  repeat refine peel ?_
  apply V; clear V K
  refine Za fun K4 hK4 => ?_
  refine rg zs [1, 2, 5, 6, 7, 8] ?_
  refine Zy ?_
  obtain ⟨p, hp⟩ : ∃ p, p = n1 := ⟨_, rfl⟩
  subst hp
  refine Yo p 4 (ver := 0) (e := 2) (els := [.agg [bys x.row, .nilsl]]) (els' := [.agg [bys x.row, .osl (p + 1) 0 0 0]]) (by first | ((try simp only [N7]); (repeat first | rw [if_pos rfl] | rw [if_pos trivial] | rw [if_neg (by omega)]); done) | ((try simp only [N7]); (repeat first | rw [if_pos rfl] | rw [if_pos trivial] | rw [if_neg (by omega)]); rfl)) ⟨Adp.agg ⟨.refl _ _, Adp.nilsl _, trivial⟩, trivial⟩ ?_
  refine Zp (fun T' H' n' => ∃ (j ver : Nat), j ≤ x.cells.length ∧ T' = tl [(1, .sl 2 (l.map Zg)), (2, .loc n 0 0 0 []), (5, .sl 2 (L.map Zg)), (6, .int .i64 i), (7, .loc p 0 0 0 []), (8, .int .i64 j)] ∧ H' n = some (.arr 0 1 [Zi fs]) ∧ H' p = some (.arr 0 2 [.agg [bys x.row, .osl (p + 1) ver 0 ((x.cells.take j).filter (W9 fs.length)).length]]) ∧ H' (p + 1) = some (.arr ver 4 (((x.cells.take j).filter (W9 fs.length)).map Zo)) ∧ (∀ k, k < n → H' k = H k) ∧ p + 2 ≤ n') (fun T' _ _ => x.cells.length - iv (T' 8)) ?_ ?_
  ·exact ⟨0, 0, Nat.zero_le _, rfl, by (try simp only [N7]); (repeat first | rw [if_pos rfl] | rw [if_pos trivial] | rw [if_neg (by omega)]); exact b1, by first | ((try simp only [N7]); (repeat first | rw [if_pos rfl] | rw [if_pos trivial] | rw [if_neg (by omega)]); done) | ((try simp only [N7]); (repeat first | rw [if_pos rfl] | rw [if_pos trivial] | rw [if_neg (by omega)]); rfl), by first | ((try simp only [N7]); (repeat first | rw [if_pos rfl] | rw [if_pos trivial] | rw [if_neg (by omega)]); done) | ((try simp only [N7]); (repeat first | rw [if_pos rfl] | rw [if_pos trivial] | rw [if_neg (by omega)]); rfl), fun k hk => by (try simp only [N7]); (repeat first | rw [if_pos rfl] | rw [if_pos trivial] | rw [if_neg (by omega)]); exact hlow k hk, by omega⟩
  rintro T1 H1 n1 ⟨j, ver, hj, rfl, b1, b2, b3, hlow, hn1⟩
  refine Za fun K5 hK5 => ?_
  refine Ze zs [1, 2, 5, 6, 7, 8, 36] fun K V => ?_
  try simp only [go_sem, seval, hszs, hags, hmos, hszr, hagr, hmor, hszc, hagc, hmoc, b1, b2, b3, hnth, hntc, hntl, e1, e2, e3, g1, g2, g3, g4, g5, g6, Nat.add_assoc, List.length_map, Int.toNat_natCast, Zr, Zg]
  repeat (first | (refine And.intro ?_ ?_; · first | exact ⟨by omega, by omega⟩) | refine peel ?_)
  apply V; clear V K
  refine Zb ?_ ?_ <;> intro hb
  ·have hcl : j < x.cells.length := by have := of_decide_eq_true hb; omega
   have hntc : nth (x.cells.map Zo) j = Zo (x.cells.getD j default) := Zx Zo x.cells j hcl
   have e2 : IntKind.i64.wrap ((j : Int) + 1) = ((j + 1 : Nat) : Int) := w1 (by omega)
   have hcb := hxb.2.2 _ (YH x.cells hcl)
   have hfl : ((x.cells.take j).filter (W9 fs.length)).length ≤ j := Nat.le_trans (List.length_filter_le _ _) (by rw [List.length_take]; omega)
   have hcs : (x.cells.take (j + 1)).filter (W9 fs.length) = (x.cells.take j).filter (W9 fs.length) ++ (if W9 fs.length (x.cells.getD j default) then [x.cells.getD j default] else []) := by rw [List.take_succ_eq_append_getElem hcl, List.filter_append]; simp [List.getD, hcl, List.filter_cons]
   obtain ⟨c, hc⟩ : ∃ c, c = x.cells.getD j default := ⟨_, rfl⟩
   rw [← hc] at hntc hcb hcs
   clear hc
   have g5 : (p = n1) = False := by simp; omega
   have g6 : (p + 1 = n1) = False := by simp; omega
   have g7 : (n = n1) = False := by simp; omega
   refine ak ?_
   apply hK5
   refine ZV [1, 2, 5, 6, 7, 8] (fun T' H' n' => ∃ ver, T' = tl [(1, .sl 2 (l.map Zg)), (2, .loc n 0 0 0 []), (5, .sl 2 (L.map Zg)), (6, .int .i64 i), (7, .loc p 0 0 0 []), (8, .int .i64 j)] ∧ H' n = some (.arr 0 1 [Zi fs]) ∧ H' p = some (.arr 0 2 [.agg [bys x.row, .osl (p + 1) ver 0 ((x.cells.take (j + 1)).filter (W9 fs.length)).length]]) ∧ H' (p + 1) = some (.arr ver 4 (((x.cells.take (j + 1)).filter (W9 fs.length)).map Zo)) ∧ (∀ k, k < n → H' k = H k) ∧ p + 2 ≤ n') ?_ ?_
   ·refine Zy ?_
    refine Ze zs [1, 2, 5, 6, 7, 8, 9] fun K V => ?_
    try simp only [go_sem, seval, hszs, hags, hmos, hszr, hagr, hmor, hszc, hagc, hmoc, b1, b2, b3, hnth, hntc, hntl, e1, e2, e3, g1, g2, g3, g4, g5, g6, Nat.add_assoc, List.length_map, Int.toNat_natCast, Zr, Zg]
    repeat (first | (refine And.intro ?_ ?_; · first | exact ⟨by omega, by omega⟩) | refine peel ?_)
    apply V; clear V K
    refine Ze zs [1, 2, 5, 6, 7, 8, 9, 57] fun K V => ?_
    try simp only [go_sem, seval, hszs, hags, hmos, hszr, hagr, hmor, hszc, hagc, hmoc, b1, b2, b3, hnth, hntc, hntl, e1, e2, e3, g1, g2, g3, g4, g5, g6, Nat.add_assoc, List.length_map, Int.toNat_natCast, Zr, Zo, Zi, g7]
    repeat (first | (refine And.intro ?_ ?_; · first | (intros; simp_all; done)) | refine peel ?_)
    apply V; clear V K
    refine Zb ?_ ?_ <;> intro hb
    ·have hyes : W9 fs.length c = true := by unfold W9; have h9 := Vf hb; simpa using h9
     refine QP rfl zs [1, 2, 5, 6, 7, 8] [.q, .q, .q, .q, .q, .q, .c, .q, .q, .q, .q, .c, .q, .q, .w [], .q, .w []] [0, 1, 2, 3, 4, 5, 6, 7, 8, 9, 10, 11, 12, 13, 14, 15, 16] [0, 1, 2, 3, 4, 5, 6, 7, 8, 9, 10, 11, 12, 13, 14, 15, 16] (by kernel_rfl) (fun _ _ _ _ _ h => h) fun K V => ?_
     try simp only [go_sem, seval, hszs, hags, hmos, hszr, hagr, hmor, hszc, hagc, hmoc, b1, b2, b3, hnth, hntc, hntl, e1, e2, e3, g1, g2, g3, g4, g5, g6, Nat.add_assoc, List.length_map, Int.toNat_natCast, Zr, Zo, Zg, g7]
     repeat refine peel ?_
     refine Z7 func23 rfl rfl rfl (fun _ n => (Xa c.qual hcb.1 _ _)) ?_
     try simp only [go_sem, seval, hszs, hags, hmos, hszr, hagr, hmor, hszc, hagc, hmoc, b1, b2, b3, hnth, hntc, hntl, e1, e2, e3, g1, g2, g3, g4, g5, g6, Nat.add_assoc, List.length_map, Int.toNat_natCast, Zr, Zo, Zg, g7]
     repeat refine peel ?_
     refine Z7 func23 rfl rfl rfl (fun _ n => (Xa c.value hcb.2 _ _)) ?_
     try simp only [go_sem, seval, hszs, hags, hmos, hszr, hagr, hmor, hszc, hagc, hmoc, b1, b2, b3, hnth, hntc, hntl, e1, e2, e3, g1, g2, g3, g4, g5, g6, Nat.add_assoc, List.length_map, Int.toNat_natCast, Zr, Zo, Zg, g7]
     repeat (first | (refine And.intro ?_ ?_; · first | exact ⟨rfl, by simp [AV.sz, AV.szs, AV.memOK]⟩ | exact ⟨Nat.le_refl _, .inr trivial, by omega, by omega⟩) | refine peel ?_)
     apply V; clear V K
     refine ns ?_
     refine ns ?_
     first
     | (rw [hcs, hyes, if_pos rfl]
        rw [List.take_of_length_le (show (((x.cells.take j).filter (W9 fs.length)).map Zo).length ≤ ((x.cells.take j).filter (W9 fs.length)).length by simp)]
        refine ⟨ver + 1, ?_⟩; (repeat' apply And.intro) <;> first | rfl | (rw [List.length_append]; rfl) | ((try simp only [N7]); (repeat first | rw [if_pos rfl] | rw [if_pos trivial] | rw [if_neg (by omega)]); first | done | exact b1 | exact b2 | exact b3 | (rw [List.map_append]; rfl) | (rw [List.length_append]; rfl)) | (intro k hk; (try simp only [N7]); (repeat first | rw [if_pos rfl] | rw [if_pos trivial] | rw [if_neg (by omega)]); exact hlow k hk) | omega)
    have hno : W9 fs.length c = false := by unfold W9; have h9 := hb; revert h9; cases decide (0 ≤ c.fam) <;> cases decide (c.fam < (fs.length : Int)) <;> simp_all
    refine ak ?_
    refine ns ?_
    first
    | (rw [hcs, hno]
       simp only [Bool.false_eq_true, if_false, List.append_nil]
       refine ⟨ver, ?_⟩; (repeat' apply And.intro) <;> first | rfl | ((try simp only [N7]); (repeat first | rw [if_pos rfl] | rw [if_pos trivial] | rw [if_neg (by omega)]); first | done | exact b1 | exact b2 | exact b3) | (intro k hk; (try simp only [N7]); (repeat first | rw [if_pos rfl] | rw [if_pos trivial] | rw [if_neg (by omega)]); exact hlow k hk) | omega)
   rintro T3 H3 n3 ⟨ver3, rfl, b1, b2, b3, hlow, hn3⟩
   refine rg1 zs [1, 2, 5, 6, 7, 8] ?_
   refine ⟨⟨j + 1, ver3, ?_⟩, by omega⟩; (repeat' apply And.intro) <;> first | rfl | omega | exact hlow | exact hn3
  have hcl : j = x.cells.length := by have := of_decide_eq_false hb; omega
  refine ax ?_
  apply hK4
  refine Za fun K6 hK6 => ?_
  subst hcl
  rw [List.take_length] at b2 b3
  refine VR (p + 1) p (ver := ver) (e := 4) (els := (Mm fs.length x).cells.map Zo) (vj := 0) (ej := 2) (lj := [.agg [bys x.row, .osl (p + 1) ver 0 (x.cells.filter (W9 fs.length)).length]]) (lj' := [Zg (Mm fs.length x)]) b3 b2 (by omega) ⟨FzV.agg ⟨.refl _, fz_cels _, trivial⟩, trivial⟩ ?_
  obtain ⟨r, hr⟩ : ∃ r, r = Mm fs.length x := ⟨_, rfl⟩
  have hrr : r.row = x.row := by rw [hr]; rfl
  rw [← hr]
  refine ZU (fun H' n' => H' n = some (.arr 0 1 [Zi fs]) ∧ H' p = some (.arr 0 2 [Zg r]) ∧ (∀ k, k < n → H' k = H k) ∧ p + 2 ≤ n') ⟨by (try simp only [N7]); (repeat first | rw [if_pos rfl] | rw [if_pos trivial] | rw [if_neg (by omega)]); exact b1, by (try simp only [N7]); (repeat first | rw [if_pos rfl] | rw [if_pos trivial] | rw [if_neg (by omega)]), fun k hk => by (try simp only [N7]); (repeat first | rw [if_pos rfl] | rw [if_pos trivial] | rw [if_neg (by omega)]); exact hlow k hk, hn1⟩ fun H3 n3 ⟨b1, b2, hlow, hn3⟩ => ?_
  refine Ze zs [1, 2, 5, 6, 7, 83] fun K V => ?_
  try simp only [go_sem, seval, hszs, hags, hmos, hszr, hagr, hmor, hszc, hagc, hmoc, b1, b2, b3, hnth, hntc, hntl, e1, e2, e3, g1, g2, g3, g4, g5, g6, Nat.add_assoc, List.length_map, Int.toNat_natCast, Zr, Zg]
  repeat refine peel ?_
  apply V; clear V K
  refine Zb ?_ ?_ <;> intro hb
  ·have h9 : x.row.length < 1 ∨ 256 < x.row.length := Classical.byContradiction fun h => by rw [hrr, decide_eq_false (show ¬ ((x.row.length : Int) < 1) by omega), decide_eq_false (show ¬ ((256 : Int) < (x.row.length : Int)) by omega)] at hb; exact absurd hb (by decide)
   have hNs1 : N (i + 1) = L := by rw [hNs]; unfold Uy; rw [if_pos h9]
   refine ax ?_
   apply hK3
   refine rg1 zs [1, 2, 5, 6] ?_
   refine ⟨⟨i + 1, ?_⟩, by omega⟩
   (repeat' apply And.intro) <;> first | omega | rfl | (rw [hNs1]; done) | (rw [hNs2]; done) | ((try simp only [N7]); (repeat first | rw [if_pos rfl] | rw [if_pos trivial] | rw [if_neg (by omega)]); first | done | exact b1 | exact hlow) | (intro k hk; (try simp only [N7]); (repeat first | rw [if_pos rfl] | rw [if_pos trivial] | rw [if_neg (by omega)]); exact hlow k hk)
  have h9 : ¬ (x.row.length < 1 ∨ 256 < x.row.length) := fun h => by
    rw [hrr] at hb
    rcases h with h | h
    ·rw [decide_eq_true (show (x.row.length : Int) < 1 by omega)] at hb; exact absurd hb (by simp)
    ·rw [decide_eq_true (show (256 : Int) < (x.row.length : Int) by omega)] at hb; cases h7 : decide ((x.row.length : Int) < 1) <;> rw [h7] at hb <;> exact absurd hb (by simp)
  have hNs1 : N (i + 1) = putN L r := by rw [hNs]; unfold Uy; rw [if_neg h9, hr]
  refine ak ?_
  apply hK6
  refine rg zs [1, 2, 5, 6, 7, 10] ?_
  refine ZV [1, 2, 5, 6, 7, 10] (fun T' H' n' => T' = tl [(1, .sl 2 (l.map Zg)), (2, .loc n 0 0 0 []), (5, .sl 2 (L.map Zg)), (6, .int .i64 i), (7, .loc p 0 0 0 []), (10, .int .i64 (posN L r.row))] ∧ H' = H3 ∧ n' = n3) ?_ ?_
  ·refine Zy ?_
   refine Zp (fun T' H' n' => ∃ a : Nat, a ≤ L.length ∧ (∀ j, j < a → Lib.compareBytes (L.getD j default).row r.row < 0) ∧ T' = tl [(1, .sl 2 (l.map Zg)), (2, .loc n 0 0 0 []), (5, .sl 2 (L.map Zg)), (6, .int .i64 i), (7, .loc p 0 0 0 []), (10, .int .i64 a)] ∧ H' = H3 ∧ n' = n3) (fun T' _ _ => L.length - iv (T' 10)) ?_ ?_
   ·exact ⟨0, Nat.zero_le _, fun j hj => by omega, rfl, rfl, rfl⟩
   rintro T1 H1 n1 ⟨a, ha, hbe, rfl, rfl, rfl⟩
   refine Za fun K7 hK7 => ?_
   rcases Nat.lt_or_ge a L.length with h14 | h14
   ·have hntl : nth (L.map Zg) a = Zg (L.getD a default) := Zx Zg L a h14
    have hd14 : decide ((a : Int) < (L.length : Int)) = true := decide_eq_true (by omega)
    have e3 : IntKind.i64.wrap ((a : Int) + 1) = ((a + 1 : Nat) : Int) := w1 (by omega)
    refine Xb rfl zs [1, 2, 5, 6, 7, 10, 99] [.m, .m, .q, .q, .m, .m, .m, .q, .q, .q, .q, .q, .q, .q, .q, .q] [0, 1, 2, 3, 4, 5, 6, 7, 8, 9, 10, 11, 12, 13, 14, 15] [0, 1, 2, 3, 4, 5, 6, 7, 8, 9, 10, 11, 12, 13, 14, 15] (by kernel_rfl) (fun _ _ _ _ _ h => h) fun K V => ?_
    try simp only [go_sem, seval, hszs, hags, hmos, hszr, hagr, hmor, hszc, hagc, hmoc, b1, b2, b3, hnth, hntc, hntl, e1, e2, e3, g1, g2, g3, g4, g5, g6, Nat.add_assoc, List.length_map, Int.toNat_natCast, Zr, Zg, hntl, hd14]
    repeat (first | (refine And.intro ?_ ?_; · first | (intro _; exact YN _) | (intros; simp_all; done)) | refine peel ?_)
    apply V; clear V K
    refine Zb ?_ ?_ <;> intro hb
    ·have hac : Lib.compareBytes (L.getD a default).row r.row < 0 := by have h8 := hb; simp only [hlt] at h8; simpa using h8
     refine ak ?_
     apply hK7
     refine Zy ?_
     refine rg1 zs [1, 2, 5, 6, 7, 10] ?_
     exact ⟨⟨a + 1, by omega, fun j hj => by rcases Nat.lt_or_ge j a with h7 | h7; exact hbe j h7; (obtain rfl : j = a := by omega); exact hac, rfl⟩, by omega⟩
    have hpos : posN L r.row = a := posN_is ha hbe (.inr (by have h8 := hb; simp only [hlt] at h8; simpa using h8))
    refine ax ?_
    refine ns ?_
    rw [hpos]
   ·have hntl : nth (L.map Zg) a = .junk := by simp [nth, List.getD, h14]
    have hd14 : decide ((a : Int) < (L.length : Int)) = false := decide_eq_false (by omega)
    have e3 : IntKind.i64.wrap ((a : Int) + 1) = ((a + 1 : Nat) : Int) := w1 (by omega)
    refine Xb rfl zs [1, 2, 5, 6, 7, 10, 99] [.m, .m, .q, .q, .m, .m, .m, .q, .q, .q, .q, .q, .q, .q, .q, .q] [0, 1, 2, 3, 4, 5, 6, 7, 8, 9, 10, 11, 12, 13, 14, 15] [0, 1, 2, 3, 4, 5, 6, 7, 8, 9, 10, 11, 12, 13, 14, 15] (by kernel_rfl) (fun _ _ _ _ _ h => h) fun K V => ?_
    try simp only [go_sem, seval, hszs, hags, hmos, hszr, hagr, hmor, hszc, hagc, hmoc, b1, b2, b3, hnth, hntc, hntl, e1, e2, e3, g1, g2, g3, g4, g5, g6, Nat.add_assoc, List.length_map, Int.toNat_natCast, Zr, Zg, hntl, hd14]
    repeat (first | (refine And.intro ?_ ?_; · first | (intro _; exact YN _) | (intros; simp_all; done)) | refine peel ?_)
    apply V; clear V K
    refine Zb ?_ ?_ <;> intro hb
    ·exact absurd hb (by simp)
    have hpos : posN L r.row = a := posN_is ha hbe (.inl (by omega))
    refine ax ?_
    refine ns ?_
    rw [hpos]
  rintro T8 H8 n8 ⟨rfl, rfl, rfl⟩
  obtain ⟨P, hP⟩ : ∃ P, P = posN L r.row := ⟨_, rfl⟩
  have hPl : P ≤ L.length := by rw [hP]; exact (List.takeWhile_sublist _).length_le
  rw [← hP]
  refine ZV [1, 2, 5, 6, 7, 10] (fun T' H' n' => N (i + 1) = L.take P ++ [r] ++ L.drop P ∧ T' = tl [(1, .sl 2 (l.map Zg)), (2, .loc n 0 0 0 []), (5, .sl 2 (L.map Zg)), (6, .int .i64 i), (7, .loc p 0 0 0 []), (10, .int .i64 P)] ∧ H' = H8 ∧ n' = n8) ?_ ?_
  ·rcases Nat.lt_or_ge P L.length with h16 | h16
   ·have hntl : nth (L.map Zg) P = Zg (L.getD P default) := Zx Zg L P h16
    have hd16 : decide ((P : Int) < (L.length : Int)) = true := decide_eq_true (by omega)
    refine Xb rfl zs [1, 2, 5, 6, 7, 10, 115] [.m, .m, .q, .q, .m, .m, .m, .q, .q, .q, .q, .q, .c, .q] [0, 1, 2, 3, 4, 5, 6, 7, 8, 9, 10, 11, 12, 13] [0, 1, 2, 3, 4, 5, 6, 7, 8, 9, 10, 11, 12, 13] (by kernel_rfl) (fun _ _ _ _ _ h => h) fun K V => ?_
    try simp only [go_sem, seval, hszs, hags, hmos, hszr, hagr, hmor, hszc, hagc, hmoc, b1, b2, b3, hnth, hntc, hntl, e1, e2, e3, g1, g2, g3, g4, g5, g6, Nat.add_assoc, List.length_map, Int.toNat_natCast, Zr, Zg, hntl, hd16]
    repeat refine peel ?_
    refine Z7 func26 rfl rfl rfl (fun _ n => (Ko (L.getD P default).row r.row _ _)) ?_
    try simp only [go_sem, seval, hszs, hags, hmos, hszr, hagr, hmor, hszc, hagc, hmoc, b1, b2, b3, hnth, hntc, hntl, e1, e2, e3, g1, g2, g3, g4, g5, g6, Nat.add_assoc, List.length_map, Int.toNat_natCast, Zr, Zg, hntl, hd16]
    repeat refine peel ?_
    apply V; clear V K
    refine Zb ?_ ?_ <;> intro hb
    ·have hNs2 : N (i + 1) = L := by rw [hNs1]; unfold putN; rw [← hP, if_pos ⟨h16, by simpa using hb⟩]
     refine ax ?_
     apply hK3
     refine rg1 zs [1, 2, 5, 6] ?_
     refine ⟨⟨i + 1, ?_⟩, by omega⟩
     (repeat' apply And.intro) <;> first | omega | rfl | (rw [hNs1]; done) | (rw [hNs2]; done) | ((try simp only [N7]); (repeat first | rw [if_pos rfl] | rw [if_pos trivial] | rw [if_neg (by omega)]); first | done | exact b1 | exact hlow) | (intro k hk; (try simp only [N7]); (repeat first | rw [if_pos rfl] | rw [if_pos trivial] | rw [if_neg (by omega)]); exact hlow k hk)
    have hNs2 : N (i + 1) = L.take P ++ [r] ++ L.drop P := by rw [hNs1]; unfold putN; rw [← hP, if_neg (fun h => by have h8 := hb; rw [h.2] at h8; simp at h8)]
    refine ak ?_
    refine ns ?_
    exact hNs2
   ·have hntl : nth (L.map Zg) P = .junk := by simp [nth, List.getD, h16]
    have hd16 : decide ((P : Int) < (L.length : Int)) = false := decide_eq_false (by omega)
    refine Xb rfl zs [1, 2, 5, 6, 7, 10, 115] [.m, .m, .q, .q, .m, .m, .m, .q, .q, .q, .q, .q, .c, .q] [0, 1, 2, 3, 4, 5, 6, 7, 8, 9, 10, 11, 12, 13] [0, 1, 2, 3, 4, 5, 6, 7, 8, 9, 10, 11, 12, 13] (by kernel_rfl) (fun _ _ _ _ _ h => h) fun K V => ?_
    try simp only [go_sem, seval, hszs, hags, hmos, hszr, hagr, hmor, hszc, hagc, hmoc, b1, b2, b3, hnth, hntc, hntl, e1, e2, e3, g1, g2, g3, g4, g5, g6, Nat.add_assoc, List.length_map, Int.toNat_natCast, Zr, Zg, hntl, hd16]
    repeat refine peel ?_
    refine Z7 (r := .bool false) func26 rfl rfl rfl (fun hg => absurd hg (by simp)) ?_
    try simp only [go_sem, seval, hszs, hags, hmos, hszr, hagr, hmor, hszc, hagc, hmoc, b1, b2, b3, hnth, hntc, hntl, e1, e2, e3, g1, g2, g3, g4, g5, g6, Nat.add_assoc, List.length_map, Int.toNat_natCast, Zr, Zg, hntl, hd16]
    repeat refine peel ?_
    apply V; clear V K
    refine Zb ?_ ?_ <;> intro hb
    ·exact absurd hb (by simp)
    have hNs2 : N (i + 1) = L.take P ++ [r] ++ L.drop P := by rw [hNs1]; unfold putN; rw [← hP, if_neg (fun h => by omega)]
    refine ak ?_
    refine ns ?_
    exact hNs2
  rintro T8 H8 n8 ⟨hNs2, rfl, rfl, rfl⟩
  refine rg zs [1, 2, 5, 6, 7, 10, 11] ?_
  have g5 : (p = n8) = False := by simp; omega
  have hst : strip true (Zg r) = Zg r := rfl
  have e2 : min P L.length = P := Nat.min_eq_left hPl
  refine Z8 11 2 rfl ?_
  refine ns ?_
  refine Ze zs [1, 2, 5, 6, 7, 10, 11] fun K V => ?_
  try simp only [go_sem, seval, hszs, hags, hmos, hszr, hagr, hmor, hszc, hagc, hmoc, b1, b2, b3, hnth, hntc, hntl, e1, e2, e3, g1, g2, g3, g4, g5, g6, Nat.add_assoc, List.length_map, Int.toNat_natCast, Zr, Option.getD_some, Option.getD_none, Int.toNat_zero, List.drop_zero, ← List.map_take, ← List.map_drop, List.length_take, List.length_drop]
  repeat (first | (refine And.intro ?_ ?_; · first | exact ⟨.inr trivial, by omega, by omega⟩) | refine peel ?_)
  apply V; clear V K
  refine Ze zs [1, 2, 5, 6, 10, 11] fun K V => ?_
  try simp only [go_sem, seval, hszs, hags, hmos, hszr, hagr, hmor, hszc, hagc, hmoc, b1, b2, b3, hnth, hntc, hntl, e1, e2, e3, g1, g2, g3, g4, g5, g6, Nat.add_assoc, List.length_map, Int.toNat_natCast, Zr, hst, List.take_take, Option.getD_some, Option.getD_none, Int.toNat_zero, List.drop_zero, ← List.map_take, ← List.map_drop, List.length_take, List.length_drop]
  repeat (first | (refine And.intro ?_ ?_; · first | exact ⟨Nat.le_refl _, .inr trivial, by omega, by omega⟩ | exact ⟨rfl, fun x hx => by rw [List.mem_singleton.1 hx]; exact ⟨hszr r, hmor r⟩⟩) | refine peel ?_)
  apply V; clear V K
  refine ZG zs [1, 2, 5, 6] fun K V => ?_
  try simp only [go_sem, seval, hszs, hags, hmos, hszr, hagr, hmor, hszc, hagc, hmoc, b1, b2, b3, hnth, hntc, hntl, e1, e2, e3, g1, g2, g3, g4, g5, g6, Nat.add_assoc, List.length_map, Int.toNat_natCast, Zr, hst, List.take_take, Option.getD_some, Option.getD_none, Int.toNat_zero, List.drop_zero, ← List.map_take, ← List.map_drop, List.length_take, List.length_drop]
  repeat (first | (refine And.intro ?_ ?_; · first | exact ⟨by (simp only [List.length_append, List.length_map, List.length_take, List.length_cons, List.length_nil]; omega), .inr trivial, by omega, by omega⟩) | refine peel ?_)
  apply V; clear V K
  refine ns ?_
  apply hK3
  first
  | (have hE : List.take (P + 1) (List.map Zg (List.take (min P P) L) ++ [Zg r]) ++ List.map Zg (List.drop P (List.take L.length L)) = (N (i + 1)).map Zg := by rw [hNs2, Nat.min_self, List.take_length, List.take_of_length_le (by simp only [List.length_append, List.length_map, List.length_take, List.length_cons, List.length_nil]; omega), List.map_append, List.map_append]; rfl
     have hLn : P + (1 + (min L.length L.length - P)) = (N (i + 1)).length := by rw [hNs2]; simp only [List.length_append, List.length_take, List.length_drop, List.length_cons, List.length_nil]; omega
     rw [hE, hLn]
     refine NN 5 n8 (N8 _ _ _) (fz_rows (N (i + 1))) ?_
     refine YC [1, 2, 5, 6] ?_
     refine ns ?_)
  refine rg1 zs [1, 2, 5, 6] ?_
  refine ⟨⟨i + 1, ?_⟩, by omega⟩
  (repeat' apply And.intro) <;> first | omega | rfl | (rw [hNs1]; done) | (rw [hNs2]; done) | ((try simp only [N7]); (repeat first | rw [if_pos rfl] | rw [if_pos trivial] | rw [if_neg (by omega)]); first | done | exact b1 | exact hlow) | (intro k hk; (try simp only [N7]); (repeat first | rw [if_pos rfl] | rw [if_pos trivial] | rw [if_neg (by omega)]); exact hlow k hk)
 have hci : N i = Jq fs.length l := by
   rw [hN]
   unfold Jq
   have h9 : i = l.length ∨ i = 40 := by
     rcases Nat.lt_or_ge i l.length with h7 | h7
     ·rcases Nat.lt_or_ge i 40 with h8 | h8
      ·rw [decide_eq_true (show (i : Int) < (l.length : Int) by omega), decide_eq_true (show (i : Int) < 40 by omega)] at hb; exact absurd hb (by decide)
      ·exact .inr (by omega)
     ·exact .inl (by omega)
   show J7 _ (l.take i) = J7 _ (l.take 40)
   rcases h9 with h9 | h9
   ·rw [List.take_of_length_le (by omega), List.take_of_length_le (by omega)]
   ·rw [h9]
 refine ax ?_
 apply hK1
 refine rg zs [4] ?_
 refine ar ?_
 rw [hci]
 exact ⟨_, rfl, hlow, .kl (XU Zg (fun r => kl_row r _) _)⟩
end Go.Proofs.YtkmkbndcekklmaaGreatDoor
set_option maxRecDepth 10000
namespace Go.Proofs.YtkmkbndcekklmaaGreatDoor
open Go Go.Sx Go.Rt Go.Proofs
theorem pos_split (l : List RowE) (r : List UInt8) : ∃ W D, l = W ++ D ∧ l.take (posN l r) = W ∧ l.drop (posN l r) = D ∧ posN l r = W.length ∧ (∀ y ∈ W, Lib.compareBytes y.row r < 0) ∧ (∀ d ds, D = d :: ds → ¬ Lib.compareBytes d.row r < 0) := by
 obtain ⟨W, hW⟩ : ∃ W, W = l.takeWhile fun y => decide (Lib.compareBytes y.row r < 0) := ⟨_, rfl⟩
 obtain ⟨D, hD⟩ : ∃ D, D = l.dropWhile fun y => decide (Lib.compareBytes y.row r < 0) := ⟨_, rfl⟩
 have e : l = W ++ D := by rw [hW, hD, List.takeWhile_append_dropWhile]
 have hp : posN l r = W.length := by rw [hW]; rfl
 refine ⟨W, D, e, by rw [hp]; conv => lhs; rw [e]
                     exact List.take_left, by rw [hp]; conv => lhs; rw [e]
                                              exact List.drop_left, hp, fun y hy => ?_, fun d ds hd => ?_⟩
 ·rw [hW] at hy
  have : ∀ (l : List RowE), y ∈ l.takeWhile (fun y => decide (Lib.compareBytes y.row r < 0)) → Lib.compareBytes y.row r < 0 := fun l => by
    induction l with
    | nil => intro h; simp at h
    | cons a l ih =>
      intro h
      rw [List.takeWhile_cons] at h
      split at h
      ·rename_i ha
       rcases List.mem_cons.1 h with rfl | h
       ·simpa using ha
       ·exact ih h
      ·simp at h
  exact this l hy
 ·rw [hd] at hD
  have : ∀ (l : List RowE), d :: ds = l.dropWhile (fun y => decide (Lib.compareBytes y.row r < 0)) → ¬ Lib.compareBytes d.row r < 0 := fun l => by
    induction l with
    | nil => intro h; simp at h
    | cons a l ih =>
      intro h
      rw [List.dropWhile_cons] at h
      split at h
      ·exact ih h
      ·rename_i ha
       cases h
       simpa using ha
  exact this l hD
theorem putN_up {l : List RowE} {r : RowE} (h : upL l) : upL (putN l r) := by
 obtain ⟨W, D, e, e1, e2, e3, hW, hD⟩ := pos_split l r.row
 unfold putN
 split
 ·exact h
 rename_i hn
 rw [e1, e2]
 unfold upL at h ⊢
 rw [e, List.pairwise_append] at h
 obtain ⟨h1, h2, h3⟩ := h
 have hr : ∀ d ∈ D, Lib.compareBytes r.row d.row < 0 := by
   cases D with
   | nil => intro d hd; cases hd
   | cons d ds =>
     have hd := hD d ds rfl
     have hne : d.row ≠ r.row := fun e9 => hn ⟨by rw [e3, e]; simp, by rw [e3, e]; simp [List.getD, e9]⟩
     have h0 : Lib.compareBytes r.row d.row < 0 := by
       have a1 := U0 d.row r.row
       have a2 := Jg r.row d.row
       have : Lib.compareBytes d.row r.row ≠ 0 := fun h => hne (a1.1 h)
       exact a2.2 om
     intro y hy
     rcases List.mem_cons.1 hy with rfl | hy
     ·exact h0
     ·exact QA h0 (by have := (List.pairwise_cons.1 h2).1 y hy; omega)
 rw [List.append_assoc, List.pairwise_append]
 refine ⟨h1, List.pairwise_cons.2 ⟨hr, h2⟩, fun a ha b hb => ?_⟩
 rcases List.mem_cons.1 hb with rfl | hb
 ·exact hW a ha
 ·exact h3 a ha b hb
theorem mem_putN {l : List RowE} {r y : RowE} (h : y ∈ putN l r) : y = r ∨ y ∈ l := by
 unfold putN at h
 split at h
 ·exact .inr h
 ·rw [List.append_assoc, List.mem_append, List.singleton_append, List.mem_cons] at h
  rcases h with h | h | h
  ·exact .inr (List.mem_of_mem_take h)
  ·exact .inl h
  ·exact .inr (List.mem_of_mem_drop h)
theorem trim_good {nf : Nat} {x : RowE} (h : ¬ (x.row.length < 1 ∨ 256 < x.row.length)) : Vk nf (Mm nf x) := by
 refine ⟨by show x.row.length ≠ 0; omega, by show x.row.length ≤ 256; omega, ?_⟩
 unfold WR Mm
 rw [List.any_eq_false]
 intro c hc
 have := (List.mem_filter.1 hc).2
 unfold W9 at this
 simp only [Bool.and_eq_true, decide_eq_true_eq] at this
 unfold bout
 simp
 omega
theorem Je (nf : Nat) (P : RowE → Prop) : ∀ (m l : List RowE), upL l → (∀ x ∈ l, Vk nf x ∧ P x) → (∀ x ∈ m, P (Mm nf x)) → upL (m.foldl (Uy nf) l) ∧ ∀ x ∈ m.foldl (Uy nf) l, Vk nf x ∧ P x
 | [], l, h1, h2, _ => ⟨h1, h2⟩
 | x :: m, l, h1, h2, h3 => by
   rw [List.foldl_cons]
   refine Je nf P m _ ?_ ?_ fun y hy => h3 y (by simp [hy])
   ·unfold Uy; split
    ·exact h1
    ·exact putN_up h1
   ·unfold Uy; split
    ·exact h2
    ·rename_i hx
     intro y hy
     rcases mem_putN hy with rfl | hy
     ·exact ⟨trim_good hx, h3 x osi⟩
     ·exact h2 y hy
theorem neatE_up (nf : Nat) (l : List RowE) : upL (Jq nf l) := (Je nf (fun _ => True) _ [] List.Pairwise.nil (fun x hx => by cases hx) fun _ _ => trivial).1
theorem neatE_good (nf : Nat) (l : List RowE) : ∀ x ∈ Jq nf l, Vk nf x := fun x hx => ((Je nf (fun _ => True) _ [] List.Pairwise.nil (fun x hx => by cases hx) fun _ _ => trivial).2 x hx).1
theorem neatE_len (nf : Nat) (l : List RowE) : (Jq nf l).length ≤ 40 := Nat.le_trans (neatF_len _ _) (by rw [List.length_take]; omega)
theorem neatE_ok {nf : Nat} {l : List RowE} (h : YP l) : YP (Jq nf l) := by
 refine ⟨by have := neatE_len nf l; omega, fun x hx => ?_⟩
 have := ((Je nf (fun x => x.row.length ≤ 1099511627776 ∧ x.cells.length ≤ 1048576 ∧ ∀ c ∈ x.cells, c.qual.length ≤ 1099511627776 ∧ c.value.length ≤ 1099511627776) (l.take 40) [] List.Pairwise.nil (fun x hx => by cases hx) fun x hx => by
   obtain ⟨a, b, c⟩ := h.2 x (List.mem_of_mem_take hx)
   exact ⟨a, Nat.le_trans (List.length_filter_le _ _) b, fun d hd => c d (List.mem_filter.1 hd).1⟩).2 x hx).2
 exact this
def atZ (q : QryE) : Int := if q.time ≠ 0 then q.time else 5
def UB (q : QryE) (V : List RowE) (j : Nat) : List UInt8 := if j = 0 then [] else tokB q (atZ q) (V.getD (j - 1) default).row
def qAt (q : QryE) (V : List RowE) (j : Nat) (m : Int) : QryE := { q with token := UB q V j, rows := m }
structure Xz (fs : List Fml) (q : QryE) (l V : List RowE) : Prop where
 fine : q.fine
 good : qcE fs q = 0
 tok : q.token = []
 up : upL l
 rows : ∀ x ∈ l, Vk fs.length x
 all : V = allV q (Yu fs q) l
section
variable {fs : List Fml} {q : QryE} {l V : List RowE}
theorem Xz.mem (h : Xz fs q l V) {y : RowE} (hy : y ∈ V) : Y6 q y.row = true ∧ y.row.length ≠ 0 ∧ y.row.length ≤ 256 := by
 rw [h.all] at hy
 unfold allV visL at hy
 obtain ⟨x, hx, rfl⟩ := List.mem_map.1 hy
 obtain ⟨h1, h2⟩ := List.mem_filter.1 hx
 have hg := h.rows x (Kh.1 h1)
 unfold visB at h2
 simp only [Bool.and_eq_true] at h2
 exact ⟨h2.1, hg.1, hg.2.1⟩
theorem Xz.len (h : Xz fs q l V) : V.length ≤ l.length := by
 rw [h.all]
 unfold allV visL
 rw [List.length_map]
 refine Nat.le_trans (List.length_filter_le _ _) ?_
 unfold dirL; split <;> simp
theorem Xz.time (h : Xz fs q l V) : 0 ≤ q.time ∧ q.time ≤ 1099511627776 := by
 have := (Q7 h.good).2.1
 unfold Yl VJ at this
 simp only [Bool.and_eq_true, decide_eq_true_eq] at this
 exact ⟨this.2.1.1.1.1.1.2, this.2.1.1.1.1.2⟩
theorem atZ_in (h : Xz fs q l V) : 1 ≤ atZ q ∧ atZ q ≤ 1099511627776 ∧ (q.time = 0 ∨ q.time = atZ q) := by
 have := h.time
 unfold atZ
 split
 ·exact ⟨om, om, .inr rfl⟩
 ·exact ⟨om, om, .inl om⟩
theorem pgTok_len (h : Xz fs q l V) (j : Nat) (hj : j ≤ V.length) : (UB q V j).length ≤ 300 := by
 unfold UB
 split
 ·exact Nat.zero_le _
 ·rename_i h0
  refine tokB_len _ _ _ (h.mem ?_).2.2
  exact YH V om
theorem Xz.read (h : Xz fs q l V) {j : Nat} (hj : j ≤ V.length) (m : Int) : ZN (qAt q V j m) = if j = 0 then (0, [], 0) else (atZ q, (V.getD (j - 1) default).row, 0) := by
 by_cases h0 : j = 0
 ·rw [if_pos h0]; exact readQ_nil (by unfold qAt UB; rw [if_pos h0])
 ·rw [if_neg h0]
  obtain ⟨a1, a2, a3⟩ := atZ_in h
  have hm : V.getD (j - 1) default ∈ V := YH V om
  obtain ⟨m1, m2, m3⟩ := h.mem hm
  exact readQ_tok (q := qAt q V j m) (by unfold qAt UB; rw [if_neg h0]; rfl) a1 a2 a3 m2 m3 m1
theorem Xz.check (h : Xz fs q l V) {j : Nat} (hj : j ≤ V.length) {m : Int} (m1 : 1 ≤ m) (m2 : m ≤ 1000) : qcE fs (qAt q V j m) = 0 := by
 have hp := Q7 h.good
 have hf : Yl fs.length (qAt q V j m) = true := by
   have h2 := hp.2.1
   unfold Yl VJ at h2 ⊢
   unfold qAt
   simp only [Bool.and_eq_true, decide_eq_true_eq] at h2 ⊢
   exact ⟨⟨h2.1.1, h2.1.2⟩, ⟨h2.2.1.1, m1⟩, m2⟩
 rw [qcE_of hp.1 hf hp.2.2.1, h.read hj]
 split <;> rfl
theorem Xz.left (h : Xz fs q l V) {j : Nat} (hj : j ≤ V.length) (m : Int) : visL (qAt q V j m) (Yu fs (qAt q V j m)) (Vi (qAt q V j m) l) = V.drop j := by
 have ht : Yu fs (qAt q V j m) = Yu fs q := rfl
 have ha : allV (qAt q V j m) (Yu fs q) l = V := h.all.symm
 rw [ht]
 by_cases h0 : j = 0
 ·rw [from_none (by unfold qAt UB; rw [if_pos h0]), ha, h0]; rfl
 ·have hr := h.read hj m
  rw [if_neg h0] at hr
  have hl : j - 1 < (allV (qAt q V j m) (Yu fs q) l).length := by rw [ha]; omega
  have hrow : (V.getD (j - 1) default).row = ((allV (qAt q V j m) (Yu fs q) l)[j - 1]).row := by
    have e : (allV (qAt q V j m) (Yu fs q) l)[j - 1] = (allV (qAt q V j m) (Yu fs q) l).getD (j - 1) default := by simp [List.getD, hl]
    rw [e, ha]
  rw [hrow] at hr
  have := from_at h.up hl hr (atZ_in h).1
  rw [this, ha, show j - 1 + 1 = j by omega]
theorem Xz.at (h : Xz fs q l V) {j : Nat} (hj : j ≤ V.length) (m : Int) {c : Int} (c1 : 1 ≤ c) (c2 : c ≤ 1099511627776) (hc : j = 0 → c = 5 ∨ q.time ≠ 0) : atE (qAt q V j m) c = (atZ q, 0) := by
 have hr := h.read hj m
 obtain ⟨a1, a2, a3⟩ := atZ_in h
 unfold atE
 rw [if_neg om, hr]
 by_cases h0 : j = 0
 ·rw [if_pos h0]
  simp only
  rw [if_neg osi, if_neg osi]
  show (if q.time ≠ 0 then (q.time, (0 : Int)) else (c, 0)) = _
  unfold atZ
  by_cases ht : q.time = 0
  ·rw [if_neg (by simp [ht]), if_neg (by simp [ht])]
   rcases hc h0 with h5 | h5
   ·rw [h5]
   ·exact absurd ht h5
  ·rw [if_pos ht, if_pos ht]
 ·rw [if_neg h0]
  simp only
  rw [if_neg osi, if_pos om]
def pgAt (q : QryE) (V : List RowE) (j : Nat) (m : Int) : PgE := if ((V.drop j).length : Int) < m then ⟨V.drop j, [], true⟩ else ⟨(V.drop j).take m.toNat, UB q V (j + m.toNat), false⟩
theorem Xz.page (h : Xz fs q l V) {j : Nat} (hj : j ≤ V.length) {m : Int} (m1 : 1 ≤ m) (m2 : m ≤ 1000) {c : Int} (c1 : 1 ≤ c) (c2 : c ≤ 1099511627776) (hc : j = 0 → c = 5 ∨ q.time ≠ 0) :
   (runE fs (qAt q V j m) c (some (Vi (qAt q V j m) l, 0))).2.2 = 0 ∧ (runE fs (qAt q V j m) c (some (Vi (qAt q V j m) l, 0))).1 = pgAt q V j m := by
 obtain ⟨m', hm'⟩ := run_from (h.check hj m1 m2) ⟨c1, c2⟩ h.up h.rows
 rw [hm']
 refine ⟨rfl, ?_⟩
 rw [h.left hj, h.at hj m c1 c2 hc]
 show JC (qAt q V j m) (tokB (qAt q V j m) (atZ q)) (V.drop j) = _
 unfold JC pgAt
 have e : (qAt q V j m).rows = m := rfl
 rw [e]
 split
 ·rfl
 ·rename_i hn
  congr 1
  unfold UB
  rw [if_neg om]
  have hi : j + m.toNat - 1 < V.length := by rw [List.length_drop] at hn; omega
  show tokB q (atZ q) ((V.drop j).getD (m.toNat - 1) default).row = _
  rw [show (V.drop j).getD (m.toNat - 1) default = V.getD (j + m.toNat - 1) default by simp [List.getD, List.getElem?_drop]; rw [show j + (m.toNat - 1) = j + m.toNat - 1 by omega]]
theorem Xz.fineAt (h : Xz fs q l V) {j : Nat} (hj : j ≤ V.length) (m : Int) : (qAt q V j m).fine := ⟨h.fine.frm, h.fine.to, h.fine.fams, h.fine.pre, h.fine.whr, by have := pgTok_len h j hj; show (UB q V j).length ≤ _; omega⟩
theorem pgAt_is (h : Xz fs q l V) {j : Nat} (hj : j ≤ V.length) {m : Int} (m1 : 1 ≤ m) : let P := pgAt q V j m
   (P.done = true ∧ P.token = [] ∧ P.rows = V.drop j ∧ (P.rows.length : Int) < m) ∨ (P.done = false ∧ P.token = UB q V (j + m.toNat) ∧ P.token.length ≠ 0 ∧ P.rows = (V.drop j).take m.toNat ∧ (P.rows.length : Int) = m ∧ j + m.toNat ≤ V.length) := by
 intro P
 have hP : P = pgAt q V j m := rfl
 unfold pgAt at hP
 split at hP
 ·left
  rename_i hlt
  rw [hP]
  exact ⟨rfl, rfl, rfl, hlt⟩
 ·right
  rename_i hn
  rw [List.length_drop] at hn
  have hl : j + m.toNat ≤ V.length := om
  rw [hP]
  refine ⟨rfl, rfl, ?_, rfl, ?_, hl⟩
  ·show (UB q V (j + m.toNat)).length ≠ 0
   unfold UB
   rw [if_neg om]
   unfold tokB; rw [XY]; omega
  ·show (((V.drop j).take m.toNat).length : Int) = m
   rw [List.length_take, List.length_drop]; omega
end
end Go.Proofs.YtkmkbndcekklmaaGreatDoor
set_option maxRecDepth 10000
namespace Go.Proofs.YtkmkbndcekklmaaGreatDoor
open Go Go.Sx Go.Rt Go.Proofs Tryz
theorem ret_at (q : QryE) (hq : q.fine) (c : Int) {r : Int × Int} (hr : atE q c = r) {H : Heap} {n : Nat} (hG : GOK 1 1 H n) : Ret prog 36 [Zf q, .int .i64 c] H n (.tup [.int .i64 r.1, .int .i64 r.2]) H n := by
 have := NK q hq c hG
 rw [hr] at this
 exact this
theorem NU10.eqs {P Q : Prop} (g : Imp P Q := by (try simp only [go_sem, seval, hszs, hags, hmos, hnum, hnua, hnum2, hszq, hagq, hmoq, hszp, hagp, hmop, f1, f2, f3, f4, f5, f6, b1, b2, b3, b4, g1, g2, g3, g4, g5, e1, e2, Nat.add_assoc, List.length_map, Int.toNat_natCast]); exact N9) : Imp P Q := g
theorem NU10.inz {P Q : Prop} (g : Imp P Q := by refine Imp.up eqs ?_; (repeat (first | (refine Imp.nd ?_ ?_; · first | (intros; simp_all; done)) | refine Imp.pl ?_)); exact N9) : Imp P Q := g
set_option maxRecDepth 100000 in
set_option maxHeartbeats 6400000 in
open NU10 in
theorem QH (fs : List Fml) (hfs : fs.length ≤ 1048576) (q : QryE) (l V : List RowE) (hA : Xz fs q l V) (hl : YP l) (hl4 : l.length ≤ 40) (sizes : List Int) (hsi : sizes.length ≤ 1048576) (H : Heap) (n : Nat) (hG : GOK 1 1 H n) :
   Ret prog 42 [Zi fs, Zf q, .int .i64 5, .sl 2 (l.map Zg), Zq sizes] H n (.tup [.sl 2 (V.map Zg), .bool true]) H n := by
 have hszs : (Zi fs).sz = 1 := rfl
 have hags : (Zi fs).isAgg = true := rfl
 have hmos : (Zi fs).memOK = true := rfl
 have hszq : ∀ q, (Zf q).sz = 10 := Z5
 have hagq : ∀ q, (Zf q).isAgg = true := fun _ => rfl
 have hmoq : ∀ q, (Zf q).memOK = true := fun _ => rfl
 have hnum : ∀ l, (Zq l).sz = 1 := fun _ => rfl
 have hnua : ∀ l, (Zq l).isAgg = false := fun _ => rfl
 have hnum2 : ∀ l, (Zq l).memOK = true := fun _ => rfl
 have hszp : ∀ p, (pgAV p).sz = 3 := fun _ => rfl
 have hagp : ∀ p, (pgAV p).isAgg = true := fun _ => rfl
 have hmop : ∀ p, (pgAV p).memOK = true := fun _ => rfl
 have hg1 := hG.gek
 have hg2 := hG.get
 have hVl := hA.len
 have f1 : (n = n + 1) = False := by simp
 have f2 : (n + 1 = n) = False := by simp
 have f3 : (n = n + 2) = False := by simp
 have f4 : (n + 1 = n + 2) = False := by simp
 have f5 : (n + 2 = n) = False := by simp
 have f6 : (n + 2 = n + 1) = False := by simp
 have b1 := f1
 have b2 := f1
 have b3 := f1
 have b4 := f1
 have g1 := f1
 have g2 := f1
 have g3 := f1
 have g4 := f1
 have g5 := f1
 have e1 := f1
 have e2 := f1
 refine Ret.fin ?_
 refine fw func42 ntmps42 results42 ?_
 refine rg zs [2, 3, 4, 5, 6] ?_
 refine rg zs [2, 3, 4, 5, 6, 12] ?_
 refine Za fun K1 hK1 => ?_
 refine rg zs [2, 3, 4, 5, 6, 12, 13] ?_
 refine Zy ?_
 refine Z8 12 2 rfl ?_
 refine YC [2, 3, 4, 5, 6, 12, 13] ?_
 refine ns ?_
 refine Zp (fun T' H' n' => ∃ (i j ver : Nat) (mm : Int), i ≤ 60 ∧ i ≤ j ∧ j ≤ V.length ∧ (j = 0 → i = 0) ∧ T' = tl [(2, .int .i64 5), (3, .sl 2 (l.map Zg)), (4, Zq sizes), (5, .loc n 0 0 0 []), (6, .loc (n + 1) 0 0 0 []), (12, .osl (n + 2) ver 0 j), (13, .int .i64 i)] ∧ H' n = some (.arr 0 1 [Zi fs]) ∧ H' (n + 1) = some (.arr 0 10 [Zf (qAt q V j mm)]) ∧ H' (n + 2) = some (.arr ver 2 ((V.take j).map Zg)) ∧ (∀ k, k < n → H' k = H k) ∧ n + 3 ≤ n') (fun T' _ _ => 60 - iv (T' 13)) ?_ ?_
 ·exact ⟨0, 0, 0, q.rows, by omega, by omega, Nat.zero_le _, fun _ => rfl, rfl, by first | ((try simp only [N7]); (repeat first | rw [if_pos rfl] | rw [if_pos trivial] | rw [if_neg (by omega)]); done) | ((try simp only [N7]); (repeat first | rw [if_pos rfl] | rw [if_pos trivial] | rw [if_neg (by omega)]); rfl), by (try simp only [N7]); (repeat first | rw [if_pos rfl] | rw [if_pos trivial] | rw [if_neg (by omega)]); rw [show qAt q V 0 q.rows = q by unfold qAt UB; rw [if_pos rfl, ← hA.tok]], by first | ((try simp only [N7]); (repeat first | rw [if_pos rfl] | rw [if_pos trivial] | rw [if_neg (by omega)]); done) | ((try simp only [N7]); (repeat first | rw [if_pos rfl] | rw [if_pos trivial] | rw [if_neg (by omega)]); rfl), fun k hk => by (try simp only [N7]); (repeat first | rw [if_pos rfl] | rw [if_pos trivial] | rw [if_neg (by omega)]), by omega⟩
 rintro T1 H1 n1 ⟨i, j, ver, mm, hi, hij, hj, hj0, rfl, b1, b2, b3, hlow, hn1⟩
 refine Za fun K2 hK2 => ?_
 refine rg zs [2, 3, 4, 5, 6, 12, 13, 23] ?_
 refine Zb ?_ ?_ <;> intro hb
 ·have hci : i < 60 := by have := of_decide_eq_true hb; omega
  have e1 : IntKind.i64.wrap ((i : Int) + 1) = ((i + 1 : Nat) : Int) := w1 (by omega)
  refine ak ?_
  apply hK2
  refine bk fun K3 hK3 => ?_
  refine Ze zs [2, 3, 4, 5, 6, 12, 13] fun K J => ?_
  try simp only [go_sem, seval, hszs, hags, hmos, hnum, hnua, hnum2, hszq, hagq, hmoq, hszp, hagp, hmop, f1, f2, f3, f4, f5, f6, b1, b2, b3, b4, g1, g2, g3, g4, g5, e1, e2, Nat.add_assoc, List.length_map, Int.toNat_natCast, Zf]
  repeat refine peel ?_
  apply J; clear J K
  refine ZV [2, 3, 4, 5, 6, 12, 13] (fun T' H' n' => ∃ m : Int, 1 ≤ m ∧ m ≤ 1000 ∧ T' = tl [(2, .int .i64 5), (3, .sl 2 (l.map Zg)), (4, Zq sizes), (5, .loc n 0 0 0 []), (6, .loc (n + 1) 0 0 0 []), (12, .osl (n + 2) ver 0 j), (13, .int .i64 i)] ∧ H' n = some (.arr 0 1 [Zi fs]) ∧ H' (n + 1) = some (.arr 0 10 [Zf (qAt q V j m)]) ∧ H' (n + 2) = some (.arr ver 2 ((V.take j).map Zg)) ∧ (∀ k, k < n → H' k = H k) ∧ n' = n1) ?_ ?_
  ·rcases Nat.lt_or_ge i sizes.length with h6 | h6
   ·have hn3 : nth (sizes.map fun x => AV.int .i64 x) i = .int .i64 (sizes.getD i default) := Zx (fun x => AV.int .i64 x) sizes i h6
    have hd6 : decide ((i : Int) < (sizes.length : Int)) = true := decide_eq_true (by omega)
    have hj1 : qBin prog 3 .geq .junk (.int .i64 1) = none := rfl
    have hj2 : qBin prog 3 .leq .junk (.int .i64 1000) = none := rfl
    refine Ze zs [2, 3, 4, 5, 6, 12, 13, 44] fun K J => ?_
    try simp only [go_sem, seval, hszs, hags, hmos, hnum, hnua, hnum2, hszq, hagq, hmoq, hszp, hagp, hmop, f1, f2, f3, f4, f5, f6, b1, b2, b3, b4, g1, g2, g3, g4, g5, e1, e2, Nat.add_assoc, List.length_map, Int.toNat_natCast, Zq, hn3, hd6, hj1, hj2, show (false == true) = false from rfl, show (true == true) = true from rfl]
    repeat (first | (refine And.intro ?_ ?_; · first | (intro _; exact ⟨by omega, by omega⟩) | (intros; simp_all; done)) | refine peel ?_)
    apply J; clear J K
    refine Zb ?_ ?_ <;> intro hb
    ·have hsz1 : 1 ≤ sizes.getD i default ∧ sizes.getD i default ≤ 1000 := by have h8 := hb; revert h8; cases h9 : decide (1 ≤ sizes.getD i default) <;> intro h8 <;> simp_all
     refine ZG zs [2, 3, 4, 5, 6, 12, 13] fun K J => ?_
     try simp only [go_sem, seval, hszs, hags, hmos, hnum, hnua, hnum2, hszq, hagq, hmoq, hszp, hagp, hmop, f1, f2, f3, f4, f5, f6, b1, b2, b3, b4, g1, g2, g3, g4, g5, e1, e2, Nat.add_assoc, List.length_map, Int.toNat_natCast, Zq, hn3, Zf]
     repeat (first | (refine And.intro ?_ ?_; · first | exact ⟨by omega, by omega⟩) | refine peel ?_)
     apply J; clear J K
     refine ns ?_
     refine ns ?_
     refine ⟨sizes.getD i default, hsz1.1, hsz1.2, ?_⟩; (repeat' apply And.intro) <;> first | rfl | ((try simp only [N7]); (repeat first | rw [if_pos rfl] | rw [if_pos trivial] | rw [if_neg (by omega)]); first | done | exact b1 | exact b2 | exact b3 | rfl) | (intro k hk; (try simp only [N7]); (repeat first | rw [if_pos rfl] | rw [if_pos trivial] | rw [if_neg (by omega)]); exact hlow k hk)
    refine ak ?_
    refine ns ?_
    refine ⟨1, by omega, by omega, ?_⟩; (repeat' apply And.intro) <;> first | rfl | ((try simp only [N7]); (repeat first | rw [if_pos rfl] | rw [if_pos trivial] | rw [if_neg (by omega)]); first | done | exact b1 | exact b2 | exact b3 | rfl) | (intro k hk; (try simp only [N7]); (repeat first | rw [if_pos rfl] | rw [if_pos trivial] | rw [if_neg (by omega)]); exact hlow k hk)
   ·have hn3 : nth (sizes.map fun x => AV.int .i64 x) i = .junk := by simp [nth, List.getD, h6]
    have hd6 : decide ((i : Int) < (sizes.length : Int)) = false := decide_eq_false (by omega)
    have hj1 : qBin prog 3 .geq .junk (.int .i64 1) = none := rfl
    have hj2 : qBin prog 3 .leq .junk (.int .i64 1000) = none := rfl
    refine Ze zs [2, 3, 4, 5, 6, 12, 13, 44] fun K J => ?_
    try simp only [go_sem, seval, hszs, hags, hmos, hnum, hnua, hnum2, hszq, hagq, hmoq, hszp, hagp, hmop, f1, f2, f3, f4, f5, f6, b1, b2, b3, b4, g1, g2, g3, g4, g5, e1, e2, Nat.add_assoc, List.length_map, Int.toNat_natCast, Zq, hn3, hd6, hj1, hj2, show (false == true) = false from rfl, show (true == true) = true from rfl]
    repeat (first | (refine And.intro ?_ ?_; · first | (intros; simp_all; done)) | refine peel ?_)
    apply J; clear J K
    refine Zb ?_ ?_ <;> intro hb
    ·exact absurd hb (by simp)
    refine ak ?_
    refine ns ?_
    refine ⟨1, by omega, by omega, ?_⟩; (repeat' apply And.intro) <;> first | rfl | ((try simp only [N7]); (repeat first | rw [if_pos rfl] | rw [if_pos trivial] | rw [if_neg (by omega)]); first | done | exact b1 | exact b2 | exact b3 | rfl) | (intro k hk; (try simp only [N7]); (repeat first | rw [if_pos rfl] | rw [if_pos trivial] | rw [if_neg (by omega)]); exact hlow k hk)
  rintro T8 H8 n8 ⟨m, m1, m2, rfl, b1, b2, b3, hlow, rfl⟩
  have hqf := hA.fineAt hj m
  have hrd : (ZN (qAt q V j m)).2.2 = 0 := by rw [hA.read hj]; split <;> rfl
  refine rk zs [2, 3, 4, 5, 6, 12, 13, 14, 15] fun K J => ?_
  refine ck func15 ((c_law13_from (qAt q V j m) hqf hrd l hl (hG.on (fun k hk => hlow k hk) (by omega)))) ?_
  apply J; clear J K
  refine Za fun K4 hK4 => ?_
  refine rg zs [2, 3, 4, 5, 6, 12, 13, 14, 57] ?_
  refine Zb ?_ ?_ <;> intro hb
  ·exact absurd hb (by simp)
  refine ak ?_
  apply hK4
  have e2 : IntKind.i64.wrap (5 + (i : Int)) = 5 + (i : Int) := w64 (by omega) (by omega)
  have hfo := from_ok (q := qAt q V j m) hl
  obtain ⟨pg1, pg2⟩ := hA.page hj m1 m2 (c := 5 + (i : Int)) (by omega) (by omega) (fun h0 => .inl (by rw [hj0 h0]; rfl))
  have pg3 := pgAt_is hA hj m1
  obtain ⟨P, hP⟩ : ∃ P, P = pgAt q V j m := ⟨_, rfl⟩
  rw [← hP] at pg2 pg3
  clear hP
  have hPr : P.rows.length ≤ 1000 := by rcases pg3 with ⟨_, _, _, d4⟩ | ⟨_, _, _, _, d5, _⟩ <;> omega
  refine rk zs [2, 3, 4, 5, 6, 12, 13, 16, 17] fun K J => ?_
  refine Zu (args' := [Zi fs, Zf (qAt q V j m), .int .i64 (5 + (i : Int)), .iface 52 (.loc n8 0 0 0 [])]) func18 rfl rfl rfl ((XK fs hfs (qAt q V j m) hqf (5 + (i : Int)) (Vi (qAt q V j m) l) 0 hfo n8 ?_ ?_)) ?_ ?_
  ·exact hG.on (fun k hk => by (try simp only [N7]); (repeat first | rw [if_pos rfl] | rw [if_pos trivial] | rw [if_neg (by omega)]); exact hlow k hk) (by omega)
  ·(try simp only [N7]); (repeat first | rw [if_pos rfl] | rw [if_pos trivial] | rw [if_neg (by omega)]); rfl
  rotate_left
  ·intro p H' n' hc; obtain ⟨_, _, hr⟩ := hc; cases hr
  intro rr H4 n4 hc
  obtain ⟨hn4, hlo4, hr⟩ := hc
  rw [pg1, pg2] at hr
  cases hr
  have b1 : H4 n = some (.arr 0 1 [Zi fs]) := (hlo4 _ (by omega) (by omega)).trans (by (try simp only [N7]); (repeat first | rw [if_pos rfl] | rw [if_pos trivial] | rw [if_neg (by omega)]); exact b1)
  have b2 : H4 (n + 1) = some (.arr 0 10 [Zf (qAt q V j m)]) := (hlo4 _ (by omega) (by omega)).trans (by (try simp only [N7]); (repeat first | rw [if_pos rfl] | rw [if_pos trivial] | rw [if_neg (by omega)]); exact b2)
  have b3 : H4 (n + 2) = some (.arr ver 2 ((V.take j).map Zg)) := (hlo4 _ (by omega) (by omega)).trans (by (try simp only [N7]); (repeat first | rw [if_pos rfl] | rw [if_pos trivial] | rw [if_neg (by omega)]); exact b3)
  have hlow : ∀ k, k < n → H4 k = H k := fun k hk => (hlo4 k (by omega) (by omega)).trans (by (try simp only [N7]); (repeat first | rw [if_pos rfl] | rw [if_pos trivial] | rw [if_neg (by omega)]); exact hlow k hk)
  have g1 : (n = n4) = False := by simp; omega
  have g2 : (n + 1 = n4) = False := by simp; omega
  have g3 : (n + 2 = n4) = False := by simp; omega
  have g4 : (n4 = n + 1) = False := by simp; omega
  have g5 : (n4 = n + 2) = False := by simp; omega
  refine nz ?_
  apply J; clear J K
  refine Za fun K5 hK5 => ?_
  refine Ze zs [2, 3, 4, 5, 6, 12, 13, 16, 103] fun K J => ?_
  try simp only [go_sem, seval, hszs, hags, hmos, hnum, hnua, hnum2, hszq, hagq, hmoq, hszp, hagp, hmop, f1, f2, f3, f4, f5, f6, b1, b2, b3, b4, g1, g2, g3, g4, g5, e1, e2, Nat.add_assoc, List.length_map, Int.toNat_natCast, pgAV, Zf]
  repeat refine peel ?_
  refine Zt func20 rfl rfl rfl ((Xw _ _ _)) ?_
  try simp only [go_sem, seval, hszs, hags, hmos, hnum, hnua, hnum2, hszq, hagq, hmoq, hszp, hagp, hmop, f1, f2, f3, f4, f5, f6, b1, b2, b3, b4, g1, g2, g3, g4, g5, e1, e2, Nat.add_assoc, List.length_map, Int.toNat_natCast, pgAV, Zf]
  repeat refine peel ?_
  apply J; clear J K
  refine Zb ?_ ?_ <;> intro hb
  ·have h103 : False := by
     have er : (qAt q V j m).rows = m := rfl
     rw [er] at hb
     rcases pg3 with ⟨d1, d2, d3, d4⟩ | ⟨d1, d2, d3, d4, d5, d6⟩
     ·rw [d1, d2, decide_eq_false (show ¬ m < (P.rows.length : Int) by omega)] at hb; simp at hb
     ·rw [d1, d5, decide_eq_false (show ¬ m < m by omega)] at hb; simp at hb; rw [hb] at d3; exact d3 rfl
   exact h103.elim
  refine ak ?_
  apply hK5
  refine Ze zs [2, 3, 4, 5, 6, 12, 13, 16] fun K J => ?_
  try simp only [go_sem, seval, hszs, hags, hmos, hnum, hnua, hnum2, hszq, hagq, hmoq, hszp, hagp, hmop, f1, f2, f3, f4, f5, f6, b1, b2, b3, b4, g1, g2, g3, g4, g5, e1, e2, Nat.add_assoc, List.length_map, Int.toNat_natCast, pgAV]
  repeat (first | (refine And.intro ?_ ?_; · first | exact ⟨by rw [List.length_take]; omega, .inr trivial, by omega, by omega⟩) | refine peel ?_)
  apply J; clear J K
  refine Za fun K6 hK6 => ?_
  refine Ze zs [2, 3, 4, 5, 6, 12, 13, 16, 109] fun K J => ?_
  try simp only [go_sem, seval, hszs, hags, hmos, hnum, hnua, hnum2, hszq, hagq, hmoq, hszp, hagp, hmop, f1, f2, f3, f4, f5, f6, b1, b2, b3, b4, g1, g2, g3, g4, g5, e1, e2, Nat.add_assoc, List.length_map, Int.toNat_natCast, pgAV]
  repeat refine peel ?_
  apply J; clear J K
  refine Zb ?_ ?_ <;> intro hb
  ·have d3 : P.rows = V.drop j := by rcases pg3 with ⟨d1, d2, d3, d4⟩ | ⟨d1, d2, d3, d4, d5, d6⟩; exact d3; rw [d1] at hb; cases hb
   refine rg zs [10, 11] ?_
   refine ar ?_
   rw [d3]
   refine ⟨_, rfl, fun k hk => by (try simp only [N7]); (repeat first | rw [if_pos rfl] | rw [if_pos trivial] | rw [if_neg (by omega)]); exact hlow k hk, .tup (.cons (.osl (by first | ((try simp only [N7]); (repeat first | rw [if_pos rfl] | rw [if_pos trivial] | rw [if_neg (by omega)]); done) | ((try simp only [N7]); (repeat first | rw [if_pos rfl] | rw [if_pos trivial] | rw [if_neg (by omega)]); rfl)) (by omega) (by simp; omega) ?_) (.cons (.kl trivial) .nil))⟩
   have hE : List.take (j + (List.drop j V).length) (List.drop 0 (List.take j (List.map Zg (List.take j V)) ++ List.map Zg (List.drop j V))) = V.map Zg := by
     rw [List.drop_zero, List.take_of_length_le (show (List.map Zg (List.take j V)).length ≤ j by rw [List.length_map, List.length_take]; omega), ← List.map_append, List.take_append_drop]
     exact List.take_of_length_le (by rw [List.length_map, List.length_drop]; omega)
   rw [hE]
   exact XV _ (XU Zg (fun r => kl_row r _) _)
  obtain ⟨d1, d2, d3, d4, d5, d6⟩ := pg3.resolve_left (fun h => by rw [h.1] at hb; cases hb)
  have hqf2 := hA.fineAt d6 m
  have ha1 : atE (qAt q V j m) 5 = (atZ q, 0) := hA.at hj m (by decide) (by decide) (fun _ => .inl rfl)
  have ha2 : atE (qAt q V (j + m.toNat) m) 82 = (atZ q, 0) := hA.at d6 m (by decide) (by decide) (fun h => by omega)
  have hw82 : IntKind.i64.wrap 82 = 82 := by decide
  refine ak ?_
  apply hK6
  refine rk zs [2, 3, 4, 5, 6, 12, 13, 16, 18, 19] fun K J => ?_
  refine ck func36 ((ret_at (qAt q V j m) hqf 5 ha1 (hG.on (fun k hk => by (try simp only [N7]); (repeat first | rw [if_pos rfl] | rw [if_pos trivial] | rw [if_neg (by omega)]); exact hlow k hk) (by omega)))) ?_
  apply J; clear J K
  refine Ze zs [2, 3, 4, 5, 6, 12, 13, 18, 19] fun K J => ?_
  try simp only [go_sem, seval, hszs, hags, hmos, hnum, hnua, hnum2, hszq, hagq, hmoq, hszp, hagp, hmop, f1, f2, f3, f4, f5, f6, b1, b2, b3, b4, g1, g2, g3, g4, g5, e1, e2, Nat.add_assoc, List.length_map, Int.toNat_natCast, pgAV, Zf]
  repeat refine peel ?_
  apply J; clear J K
  refine X0 (n + 1) (els := [qaX (qAt q V j m) (bys q.frm) (bys q.to) (Zq q.fams) (bys q.pre) (bys P.token)]) (els' := [Zf (qAt q V (j + m.toNat) m)]) (by first | ((try simp only [N7]); (repeat first | rw [if_pos rfl] | rw [if_pos trivial] | rw [if_neg (by omega)]); done) | ((try simp only [N7]); (repeat first | rw [if_pos rfl] | rw [if_pos trivial] | rw [if_neg (by omega)]); rfl)) (wk_qa (q := qAt q V (j + m.toNat) m) (.refl _) (.refl _) (.refl _) (.refl _) (.of_eq (by rw [d2]; rfl))) ?_
  refine Ze zs [2, 3, 4, 5, 6, 12, 13, 18, 19, 20, 21] fun K J => ?_
  try simp only [go_sem, seval, hszs, hags, hmos, hnum, hnua, hnum2, hszq, hagq, hmoq, hszp, hagp, hmop, f1, f2, f3, f4, f5, f6, b1, b2, b3, b4, g1, g2, g3, g4, g5, e1, e2, Nat.add_assoc, List.length_map, Int.toNat_natCast, hw82]
  repeat refine peel ?_
  refine Zt func36 rfl rfl rfl ((ret_at (qAt q V (j + m.toNat) m) hqf2 82 ha2 (hG.on (fun k hk => by (try simp only [N7]); (repeat first | rw [if_pos rfl] | rw [if_pos trivial] | rw [if_neg (by omega)]); exact hlow k hk) (by omega)))) ?_
  try simp only [go_sem, seval, hszs, hags, hmos, hnum, hnua, hnum2, hszq, hagq, hmoq, hszp, hagp, hmop, f1, f2, f3, f4, f5, f6, b1, b2, b3, b4, g1, g2, g3, g4, g5, e1, e2, Nat.add_assoc, List.length_map, Int.toNat_natCast, hw82]
  repeat refine peel ?_
  apply J; clear J K
  refine Ze zs [2, 3, 4, 5, 6, 12, 13, 139] fun K J => ?_
  try simp only [go_sem, seval, hszs, hags, hmos, hnum, hnua, hnum2, hszq, hagq, hmoq, hszp, hagp, hmop, f1, f2, f3, f4, f5, f6, b1, b2, b3, b4, g1, g2, g3, g4, g5, e1, e2, Nat.add_assoc, List.length_map, Int.toNat_natCast, show (false == false) = true from rfl, show (true == false) = false from rfl]
  repeat refine peel ?_
  refine Zt func20 rfl rfl rfl ((Xw _ _ _)) ?_
  try simp only [go_sem, seval, hszs, hags, hmos, hnum, hnua, hnum2, hszq, hagq, hmoq, hszp, hagp, hmop, f1, f2, f3, f4, f5, f6, b1, b2, b3, b4, g1, g2, g3, g4, g5, e1, e2, Nat.add_assoc, List.length_map, Int.toNat_natCast, show (false == false) = true from rfl, show (true == false) = false from rfl]
  repeat refine peel ?_
  refine Yy func20 rfl rfl rfl (fun _ => (Xw _ _ _)) ?_
  try simp only [go_sem, seval, hszs, hags, hmos, hnum, hnua, hnum2, hszq, hagq, hmoq, hszp, hagp, hmop, f1, f2, f3, f4, f5, f6, b1, b2, b3, b4, g1, g2, g3, g4, g5, e1, e2, Nat.add_assoc, List.length_map, Int.toNat_natCast, show (false == false) = true from rfl, show (true == false) = false from rfl]
  repeat refine peel ?_
  apply J; clear J K
  refine Zb ?_ ?_ <;> intro hb
  ·exact absurd hb (by simp)
  refine ak ?_
  apply hK3
  refine rg1 zs [2, 3, 4, 5, 6, 12, 13] ?_
  have hLe : P.rows.length = m.toNat := by omega
  have hE : List.take j (List.map Zg (List.take j V)) ++ List.map Zg P.rows = List.map Zg (V.take (j + m.toNat)) := by
    rw [d4, List.take_of_length_le (show (List.map Zg (List.take j V)).length ≤ j by rw [List.length_map, List.length_take]; omega), ← List.map_append, List.take_add]
  rw [hE, hLe]
  refine ⟨⟨i + 1, j + m.toNat, ver + 1, m, by omega, by omega, d6, fun h => by omega, rfl, rfl, rfl, fun k hk => ?_, by omega⟩, by omega⟩
  (try simp only [N7]); (repeat first | rw [if_pos rfl] | rw [if_pos trivial] | rw [if_neg (by omega)])
  exact hlow k hk
 exact absurd (of_decide_eq_false hb) (by omega)
def qOne : QryE := { frm := [], to := [], fams := [], pre := [], time := 0, n := 1, rows := 1, rev := false, whr := [], token := [] }
theorem qOne_qcE (fs : List Fml) : qcE fs qOne = Zv fs := by
 unfold qcE
 by_cases h : Zv fs = 0
 ·rw [if_neg (by simp [h]), if_neg (by simp [Yl, U9, Uh, VJ, qOne]), if_neg (by rintro ⟨a, _⟩; simp [qOne] at a), h]
  rfl
 ·rw [if_pos h]
theorem qOne_fine : qOne.fine := ⟨Nat.zero_le _, Nat.zero_le _, Nat.zero_le _, Nat.zero_le _, Nat.zero_le _, Nat.zero_le _⟩
theorem wk_one : Wk (.agg [.nilsl, .nilsl, .nilsl, .nilsl, .int .i64 0, .int .i64 1, .int .i64 1, .bool false, .str [], .nilsl]) (Zf qOne) :=
 Wk.agg ⟨.nilsl 1, .nilsl 1, .nilsl 1, .nilsl 1, .refl _, .refl _, .refl _, .refl _, .refl _, .nilsl 1, trivial⟩
def schG (fs : List Fml) : List Fml := if Zv fs = 0 then fs else twoF
theorem schG_ok (fs : List Fml) : Zv (schG fs) = 0 := by unfold schG; split; assumption; exact Jy
theorem schG_len {fs : List Fml} (h : fs.length ≤ 1048576) : (schG fs).length ≤ 1048576 := by unfold schG; split; exact h; decide
theorem rowsOK_app {a b : List RowE} (ha : YP a) (hb : YP b) (h : a.length + b.length ≤ 1048576) : YP (a ++ b) :=
 ⟨by rw [List.length_append]; exact h, fun x hx => by rcases List.mem_append.1 hx with h | h; exact ha.2 x h; exact hb.2 x h⟩
theorem allV_cells {q : QryE} {t : Option Tst} {l : List RowE} (h : YP l) : ∀ x ∈ allV q t l, x.cells.length ≤ 1048576 := fun x hx => by
 unfold allV visL at hx
 obtain ⟨y, hy, rfl⟩ := List.mem_map.1 hx
 have := (h.2 y (Kh.1 (List.mem_filter.1 hy).1)).2.1
 exact Nat.le_trans (List.length_filter_le _ _) this
theorem NU20.eqs {P Q : Prop} (g : Imp P Q := by (try simp only [go_sem, seval, c1, c2, hszs, hags, hmos, hnum, hnua, hnum2, hszq, hagq, hmoq, f1, f2, f3, f4, f5, f6, b1, b2, g1, g2, Nat.add_assoc, List.length_map, Int.toNat_natCast]); exact N9) : Imp P Q := g
theorem NU20.inz {P Q : Prop} (g : Imp P Q := by refine Imp.up eqs ?_; (repeat (first | (refine Imp.nd ?_ ?_; · first | exact ⟨by decide, .inr trivial, by omega, by omega⟩) | refine Imp.pl ?_)); exact N9) : Imp P Q := g
def qWay (fs : List Fml) (q : QryE) (b : Bool) : QryE := { V7 fs q with rev := b }
theorem ask_way (fs : List Fml) (h : Zv fs = 0) {q : QryE} (hq : q.fine) (b : Bool) (l : List RowE) : Xz fs (qWay fs q b) (Jq fs.length l) (allV (qWay fs q b) (Yu fs (qWay fs q b)) (Jq fs.length l)) := by
 have hg := Q7 (Nh h q)
 have hf := goodE_fine (fs := fs) hq
 refine ⟨⟨hf.frm, hf.to, hf.fams, hf.pre, hf.whr, hf.token⟩, ?_, Lt _ _, neatE_up _ _, neatE_good _ _, rfl⟩
 rw [qcE_of h (show Yl fs.length (qWay fs q b) = true from hg.2.1) hg.2.2.1, readQ_nil (show (qWay fs q b).token = [] from Lt _ _)]
theorem way_rev (fs : List Fml) (q : QryE) (l : List RowE) : allV (qWay fs q true) (Yu fs (qWay fs q true)) l = (allV (qWay fs q false) (Yu fs (qWay fs q false)) l).reverse := by
 show ((l.reverse).filter (visB (qWay fs q true) (Yu fs (qWay fs q true)))).map (visR (qWay fs q true) (Yu fs (qWay fs q true))) = ((l.filter (visB (qWay fs q false) (Yu fs (qWay fs q false)))).map (visR (qWay fs q false) (Yu fs (qWay fs q false)))).reverse
 rw [List.filter_reverse, List.map_reverse]; rfl
theorem one_at (V : List RowE) {i : Nat} (h : i < V.length) : (V.take (i + 1)).drop i = [V.getD i default] := by
 rw [List.take_succ_eq_append_getElem h, List.drop_left' (by rw [List.length_take]; omega)]
 simp [List.getD, h]
theorem MV (V : List RowE) {i : Nat} (h : i < V.length) : (V.reverse.take (V.length - i)).drop (V.length - 1 - i) = [V.getD i default] := by
 have := one_at V.reverse (i := V.length - 1 - i) (by rw [List.length_reverse]; omega)
 rw [show V.length - 1 - i + 1 = V.length - i by omega] at this
 rw [this]
 simp [List.getD, List.getElem?_reverse (show V.length - 1 - i < V.length by omega), show V.length - 1 - (V.length - 1 - i) = i by omega]
theorem NU30.eqs {P Q : Prop} (g : Imp P Q := by (try simp only [go_sem, seval, c1, c2, hszs, hags, hmos, hnum, hnua, hnum2, hszq, hagq, hmoq, f1, f2, f3, f4, f5, f6, b1, b2, g1, g2, Nat.add_assoc, List.length_map, Int.toNat_natCast]); exact N9) : Imp P Q := g
theorem NU30.inz {P Q : Prop} (g : Imp P Q := by refine Imp.up eqs ?_; (repeat (first | (refine Imp.nd ?_ ?_; · first | exact ⟨by decide, .inr trivial, by omega, by omega⟩) | refine Imp.pl ?_)); exact N9) : Imp P Q := g
set_option maxRecDepth 100000 in
set_option maxHeartbeats 6400000 in
open NU30 in
theorem Kr (fs0 : List Fml) (hfs0 : fs0.length ≤ 1048576) (q : QryE) (hq : q.fine) (rows : List RowE) (hrw : YP rows) (hrl : rows.length ≤ 1048573) (sizes : List Int) (hsi : sizes.length ≤ 1048576) (H : Heap) (n : Nat) (hG : GOK 1 1 H n) :
   Ret prog 9 [Zi fs0, Zf q, .sl 2 (rows.map Zg), Zq sizes] H n (.bool true) H n := by
 have hszs : ∀ f, (Zi f).sz = 1 := fun _ => rfl
 have hags : ∀ f, (Zi f).isAgg = true := fun _ => rfl
 have hmos : ∀ f, (Zi f).memOK = true := fun _ => rfl
 have hszq : ∀ q, (Zf q).sz = 10 := Z5
 have hagq : ∀ q, (Zf q).isAgg = true := fun _ => rfl
 have hmoq : ∀ q, (Zf q).memOK = true := fun _ => rfl
 have hnum : ∀ l, (Zq l).sz = 1 := fun _ => rfl
 have hnua : ∀ l, (Zq l).isAgg = false := fun _ => rfl
 have hnum2 : ∀ l, (Zq l).memOK = true := fun _ => rfl
 have hg1 := hG.gek
 have hg2 := hG.get
 have f1 : (n = n + 1) = False := by simp
 have f2 : (n + 1 = n) = False := by simp
 have f3 : (n = n + 2) = False := by simp
 have f4 : (n + 1 = n + 2) = False := by simp
 have f5 : (n + 2 = n) = False := by simp
 have f6 : (n + 2 = n + 1) = False := by simp
 have b1 := f1
 have b2 := f1
 have g1 := f1
 have g2 := f1
 have c1 := f1
 have c2 := f1
 refine Ret.fin ?_
 refine fw func9 ntmps9 results9 ?_
 refine rg zs [2, 3, 4, 5] ?_
 refine ZV [2, 3, 4, 5] (fun T' H' n' => T' = tl [(2, .sl 2 (rows.map Zg)), (3, Zq sizes), (4, .loc n 0 0 0 []), (5, .loc (n + 1) 0 0 0 [])] ∧ H' n = some (.arr 0 1 [Zi (schG fs0)]) ∧ H' (n + 1) = some (.arr 0 10 [Zf q]) ∧ (∀ k, k < n → H' k = H k) ∧ n' = n + 2) ?_ ?_
 ·refine rk zs [2, 3, 4, 5, 19] fun K J => ?_
  refine ck func38 ((Ret.wk (args' := [Zi fs0, Zf qOne]) (Uj fs0 hfs0 qOne qOne_fine _ _) ⟨.refl _, wk_one, trivial⟩)) ?_
  apply J; clear J K
  refine Zb ?_ ?_ <;> intro hb
  ·have h18 : schG fs0 = twoF := by unfold schG; rw [if_neg (by rw [← qOne_qcE]; simpa using hb)]
   refine rk1 zs [2, 3, 4, 5] fun K J => ?_
   refine ck func14 ((Ub _ _)) ?_
   apply J; clear J K
   refine ns ?_
   refine ns ?_
   rw [h18]
   (repeat' apply And.intro) <;> first | rfl | ((try simp only [N7]); (repeat first | rw [if_pos rfl] | rw [if_pos trivial] | rw [if_neg (by omega)]); done) | ((try simp only [N7]); (repeat first | rw [if_pos rfl] | rw [if_pos trivial] | rw [if_neg (by omega)]); rfl) | (intro k hk; (try simp only [N7]); (repeat first | rw [if_pos rfl] | rw [if_pos trivial] | rw [if_neg (by omega)]))
  have h18 : schG fs0 = fs0 := by unfold schG; rw [if_pos (by rw [← qOne_qcE]; simpa using hb)]
  refine ak ?_
  refine ns ?_
  rw [h18]
  (repeat' apply And.intro) <;> first | rfl | ((try simp only [N7]); (repeat first | rw [if_pos rfl] | rw [if_pos trivial] | rw [if_neg (by omega)]); done) | ((try simp only [N7]); (repeat first | rw [if_pos rfl] | rw [if_pos trivial] | rw [if_neg (by omega)]); rfl) | (intro k hk; (try simp only [N7]); (repeat first | rw [if_pos rfl] | rw [if_pos trivial] | rw [if_neg (by omega)]))
 rintro T8 H8 n8 ⟨rfl, c1, c2, hlow8, rfl⟩
 obtain ⟨fs, hfsd⟩ : ∃ fs, fs = schG fs0 := ⟨_, rfl⟩
 have hfs : fs.length ≤ 1048576 := hfsd ▸ schG_len hfs0
 have hsc : Zv fs = 0 := hfsd ▸ schG_ok fs0
 rw [← hfsd] at c1
 have hrk := rowsOK_app Qq hrw (by show 3 + rows.length ≤ _; omega)
 refine dx zs [3, 4, 5, 9] [.q, .w [0], .m, .w [0], .w [], .q] [0, 2, 1, 3, 4, 5] [0, 2, 1, 3, 4, 5] fun K J => ?_
 refine cK func17 (x_law13_plain _ _) ?_ ?_
 ·intro p H' n' hc; cases hc.1
 intro rr H1 n1 hc
 obtain ⟨hr, hp1, hlo1, hn1⟩ := hc
 cases hr
 have b1 : H1 n = some (.arr 0 1 [Zi fs]) := (hlo1 n (by omega)).trans c1
 have b2 : H1 (n + 1) = some (.arr 0 10 [Zf q]) := (hlo1 _ (by omega)).trans c2
 have g1 : H1 (n + 2) = some (.arr 3 2 (ZL.map Zg)) := hp1
 refine nz ?_
 have hE : List.take 3 (List.map Zg ZL) ++ List.map Zg rows = (ZL ++ rows).map Zg := by rw [List.map_append]; rfl
 have hLn : 3 + rows.length = (ZL ++ rows).length := by rw [List.length_append]; rfl
 rw [hE, hLn]
 refine Zt func16 rfl rfl rfl (Ret.frzK (args' := [Zi fs, .sl 2 ((ZL ++ rows).map Zg)]) (n + 2) (N8 _ _ _) ⟨.refl _, fz_rows _, trivial⟩ (c_law13_neat fs hfs (ZL ++ rows) hrk _ _)) ?_
 refine nz ?_
 apply J; clear J K
 have hA := ask_way fs hsc hq false (ZL ++ rows)
 have hB := ask_way fs hsc hq true (ZL ++ rows)
 rw [way_rev] at hB
 have hLk := neatE_ok (nf := fs.length) hrk
 have hL4 := neatE_len fs.length (ZL ++ rows)
 obtain ⟨L, hL⟩ : ∃ L, L = Jq fs.length (ZL ++ rows) := ⟨_, rfl⟩
 rw [← hL] at hA hB hLk hL4 ⊢
 have hVc := allV_cells (q := qWay fs q false) (t := Yu fs (qWay fs q false)) hLk
 have hVl := hA.len
 obtain ⟨V, hV⟩ : ∃ V, V = allV (qWay fs q false) (Yu fs (qWay fs q false)) L := ⟨_, rfl⟩
 rw [← hV] at hA hB hVc hVl
 refine ZU (fun H' n' => H' n = some (.arr 0 1 [Zi fs]) ∧ H' (n + 1) = some (.arr 0 10 [Zf q]) ∧ (∀ k, k < n → H' k = H k) ∧ n + 2 ≤ n') ⟨by (try simp only [N7]); (repeat first | rw [if_pos rfl] | rw [if_pos trivial] | rw [if_neg (by omega)]); exact b1, by (try simp only [N7]); (repeat first | rw [if_pos rfl] | rw [if_pos trivial] | rw [if_neg (by omega)]); exact b2, fun k hk => by (try simp only [N7]); (repeat first | rw [if_pos rfl] | rw [if_pos trivial] | rw [if_neg (by omega)]); rw [hlo1 k (by omega)]; exact hlow8 k hk, by omega⟩ fun H3 n3 ⟨b1, b2, hlow, hn3⟩ => ?_
 have g1 : (n = n3) = False := by simp; omega
 have g2 : (n + 1 = n3) = False := by simp; omega
 refine rk zs [3, 4, 9, 10] fun K J => ?_
 refine ck func13 ((Kq fs hfs q hq)) ?_
 apply J; clear J K
 refine Ze zs [3, 4, 9, 10] fun K J => ?_
 try simp only [go_sem, seval, c1, c2, hszs, hags, hmos, hnum, hnua, hnum2, hszq, hagq, hmoq, f1, f2, f3, f4, f5, f6, b1, b2, g1, g2, Nat.add_assoc, List.length_map, Int.toNat_natCast, Zf]
 repeat refine peel ?_
 apply J; clear J K
 refine X0 n3 (els := [Zf (qWay fs q false)]) (els' := [Zf (qWay fs q false)]) (by first | ((try simp only [N7]); (repeat first | rw [if_pos rfl] | rw [if_pos trivial] | rw [if_neg (by omega)]); done) | ((try simp only [N7]); (repeat first | rw [if_pos rfl] | rw [if_pos trivial] | rw [if_neg (by omega)]); rfl)) ⟨.refl _, trivial⟩ ?_
 refine rk zs [3, 4, 9, 10, 11, 12] fun K J => ?_
 refine ck func42 ((QH fs hfs (qWay fs q false) L V hA hLk hL4 sizes hsi _ _ (hG.on (fun k hk => by (try simp only [N7]); (repeat first | rw [if_pos rfl] | rw [if_pos trivial] | rw [if_neg (by omega)]); exact hlow k hk) (by omega)))) ?_
 apply J; clear J K
 refine Ze zs [3, 4, 9, 10, 11, 12] fun K J => ?_
 try simp only [go_sem, seval, c1, c2, hszs, hags, hmos, hnum, hnua, hnum2, hszq, hagq, hmoq, f1, f2, f3, f4, f5, f6, b1, b2, g1, g2, Nat.add_assoc, List.length_map, Int.toNat_natCast, Zf]
 repeat refine peel ?_
 apply J; clear J K
 refine X0 n3 (els := [Zf (qWay fs q true)]) (els' := [Zf (qWay fs q true)]) (by first | ((try simp only [N7]); (repeat first | rw [if_pos rfl] | rw [if_pos trivial] | rw [if_neg (by omega)]); done) | ((try simp only [N7]); (repeat first | rw [if_pos rfl] | rw [if_pos trivial] | rw [if_neg (by omega)]); rfl)) ⟨.refl _, trivial⟩ ?_
 refine rk zs [11, 12, 13, 14] fun K J => ?_
 refine ck func42 ((QH fs hfs (qWay fs q true) L V.reverse hB hLk hL4 sizes hsi _ _ (hG.on (fun k hk => by (try simp only [N7]); (repeat first | rw [if_pos rfl] | rw [if_pos trivial] | rw [if_neg (by omega)]); exact hlow k hk) (by omega)))) ?_
 apply J; clear J K
 refine Za fun K1 hK1 => ?_
 refine Ze zs [11, 13, 59] fun K J => ?_
 try simp only [go_sem, seval, c1, c2, hszs, hags, hmos, hnum, hnua, hnum2, hszq, hagq, hmoq, f1, f2, f3, f4, f5, f6, b1, b2, g1, g2, Nat.add_assoc, List.length_map, Int.toNat_natCast, List.length_reverse]
 repeat refine peel ?_
 apply J; clear J K
 refine Zb ?_ ?_ <;> intro hb
 ·exact absurd hb (by simp)
 refine ak ?_
 apply hK1
 refine Za fun K2 hK2 => ?_
 refine ZU (fun H' n' => (∀ k, k < n → H' k = H k) ∧ n + 2 ≤ n') ⟨fun k hk => by (try simp only [N7]); (repeat first | rw [if_pos rfl] | rw [if_pos trivial] | rw [if_neg (by omega)]); exact hlow k hk, by omega⟩ fun H4 n4 ⟨hlow, hn4⟩ => ?_
 refine rg zs [11, 13, 15] ?_
 refine Zy ?_
 refine Zp (fun T' H' n' => ∃ i : Nat, i ≤ V.length ∧ T' = tl [(11, .sl 2 (V.map Zg)), (13, .sl 2 (V.reverse.map Zg)), (15, .int .i64 i)] ∧ H' = H4 ∧ n' = n4) (fun T' _ _ => V.length - iv (T' 15)) ?_ ?_
 ·exact ⟨0, Nat.zero_le _, rfl, rfl, rfl⟩
 rintro T1 H1 n1 ⟨i, hi, rfl, rfl, rfl⟩
 refine Za fun K3 hK3 => ?_
 refine rg zs [11, 13, 15, 63] ?_
 refine Zb ?_ ?_ <;> intro hb
 ·have hci : i < V.length := by have := of_decide_eq_true hb; omega
  have e1 : IntKind.i64.wrap ((i : Int) + 1) = ((i + 1 : Nat) : Int) := w1 (by omega)
  have e2 : IntKind.i64.wrap ((V.length : Int) - 1) = ((V.length - 1 : Nat) : Int) := by rw [w64 (by omega) (by omega)]; omega
  have e3 : IntKind.i64.wrap (((V.length - 1 : Nat) : Int) - (i : Int)) = ((V.length - 1 - i : Nat) : Int) := by rw [w64 (by omega) (by omega)]; omega
  have e4 : IntKind.i64.wrap ((V.length : Int) - (i : Int)) = ((V.length - i : Nat) : Int) := by rw [w64 (by omega) (by omega)]; omega
  refine ak ?_
  apply hK3
  refine bk fun K4 hK4 => ?_
  refine Xb rfl zs [11, 13, 15, 83] [.m, .m, .m, .q, .q, .m, .m, .q, .q, .m, .q, .m, .q, .m, .q, .q, .c, .q] [0, 1, 2, 3, 4, 5, 6, 7, 8, 9, 10, 11, 12, 13, 14, 15, 16, 17] [0, 1, 2, 3, 4, 5, 6, 7, 8, 9, 10, 11, 12, 13, 14, 15, 16, 17] (by kernel_rfl) (fun _ _ _ _ _ h => h) fun K J => ?_
  try simp only [go_sem, seval, c1, c2, hszs, hags, hmos, hnum, hnua, hnum2, hszq, hagq, hmoq, f1, f2, f3, f4, f5, f6, b1, b2, g1, g2, Nat.add_assoc, List.length_map, Int.toNat_natCast, List.length_reverse, e1, e2, e3, e4, Option.getD_some, Option.getD_none, ← List.map_take, ← List.map_drop]
  repeat (first | (refine And.intro ?_ ?_; · first | exact ⟨by omega, by omega, by omega, fun m h => h.elim⟩) | refine peel ?_)
  refine Z7 func43 rfl rfl rfl (fun _ n => (Lf ((V.take (i + 1)).drop i) ((V.reverse.take (V.length - i)).drop (V.length - 1 - i)) (by rw [one_at V hci]; exact Nat.le_add_left 1 1048575) (by rw [MV V hci]; exact Nat.le_add_left 1 1048575) (by rw [one_at V hci]; intro x hx; rw [List.mem_singleton.1 hx]; exact hVc _ (YH V hci)) (by rw [MV V hci]; intro x hx; rw [List.mem_singleton.1 hx]; exact hVc _ (YH V hci)) _ _)) ?_
  try simp only [go_sem, seval, c1, c2, hszs, hags, hmos, hnum, hnua, hnum2, hszq, hagq, hmoq, f1, f2, f3, f4, f5, f6, b1, b2, g1, g2, Nat.add_assoc, List.length_map, Int.toNat_natCast, List.length_reverse, e1, e2, e3, e4, Option.getD_some, Option.getD_none, ← List.map_take, ← List.map_drop]
  repeat refine peel ?_
  apply J; clear J K
  refine Zb ?_ ?_ <;> intro hb
  ·exact absurd hb (by rw [one_at V hci, MV V hci]; simp)
  refine ak ?_
  apply hK4
  refine ZG zs [11, 13, 15] fun K J => ?_
  try simp only [go_sem, seval, c1, c2, hszs, hags, hmos, hnum, hnua, hnum2, hszq, hagq, hmoq, f1, f2, f3, f4, f5, f6, b1, b2, g1, g2, Nat.add_assoc, List.length_map, Int.toNat_natCast, e1]
  repeat refine peel ?_
  apply J; clear J K
  refine ns ?_
  exact ⟨⟨i + 1, by omega, rfl⟩, by omega⟩
 refine ax ?_
 apply hK2
 refine rk zs [8] fun K J => ?_
 refine ck func31 ((LZ _ _ (hG.on (fun k hk => hlow k hk) (by omega)))) ?_
 apply J; clear J K
 refine ar ?_
 exact ⟨_, rfl, fun k hk => hlow k hk, Frz.eq (by simp) trivial⟩
end Go.Proofs.YtkmkbndcekklmaaGreatDoor