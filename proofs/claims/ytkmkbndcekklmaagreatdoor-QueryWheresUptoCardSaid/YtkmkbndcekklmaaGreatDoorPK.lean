/- Own layer: Run over a source that is new, Run with no source; two, plain, copied. Of the program; no condition. -/
import Derived.Test.YtkmkbndcekklmaaGreatDoorPJ
import Derived.Test.YtkmkbndcekklmaaGreatDoorPF
set_option linter.unusedSimpArgs false
set_option linter.unusedVariables false
set_option maxRecDepth 10000
namespace Go.Proofs.YtkmkbndcekklmaaGreatDoor
open Go Go.Sx Go.Rt Go.Proofs Tryz
theorem _root_.Go.Sx.Zi.adoptO {P : Program} {f : FuncId} {args : List AV} {H : Heap} {n : Nat} {K : ARes → Heap → Nat → Prop} (k esz : Nat) {ver e : Nat} {els els' : List AV} (hk : H k = some (.arr ver e els)) (ha : AdpL n els els')
   (h : Zi P f args ((H.put n (some (.arr 0 esz []))).put k (some (.arr ver e els'))) (n + 1) K) : Zi P f args H n K := fun c w vs hs hr => by
 have hst := M8 hs esz
 have hkn : k ≠ n := fun e => by subst e; rw [(hs.fresh _ (Nat.le_refl _)).1] at hk; simp at hk
 have hst2 := Step.retell (els' := els') hst.sim (k := k) (by rw [ME _ _ hkn]; exact hk) (fun ds hd => ha.relF MH hd) ha.len.symm ha.szAll
 exact (h _ w vs (hst.trans hst2).sim (RelT.mono (hst.trans hst2).le _ _ hr)).mono fun e w' ⟨res, c', H', n', V, hst3, hm⟩ => ⟨res, c', H', n', V, (hst.trans hst2).trans hst3, hm⟩
def srcN (rows : List RowE) (err : Int) : AObj := .arr 0 5 [.agg [.sl 2 (rows.map ZO), .int .i64 err, .int .i64 0, .nilsl, .nilsl]]
def RunO (ks : Nat) (z : PgE × Nat × Int) (H : Heap) (n : Nat) (res : ARes) (H' : Heap) (n' : Nat) : Prop :=
 n ≤ n' ∧ (∀ k, k < n → k ≠ ks → H' k = H k) ∧ ∃ a pk, res = .val (.tup [a, .int .i64 z.2.2]) ∧ Own H' a (pgAV z.1) pk ∧ pk.Nodup ∧ (∀ k ∈ pk, n ≤ k ∧ k < n')
def RunP (ks : Nat) (z : PgE × Nat × Int) (H : Heap) (n : Nat) (res : ARes) (H' : Heap) (n' : Nat) : Prop :=
 n ≤ n' ∧ (∀ k, k < n → k ≠ ks → H' k = H k) ∧ res = .val (.tup [pgAV z.1, .int .i64 z.2.2])
theorem RunO.frz {ks : Nat} {z : PgE × Nat × Int} {H : Heap} {n : Nat} {P : Program} {f : FuncId} {args : List AV} (h : Zi P f args H n (RunO ks z H n)) : Zi P f args H n (RunP ks z H n) :=
 h.frzS fun res H1 n1 ⟨h1, h2, a, pk, hr, ho, hd, hp⟩ => by
   have e := Na (j := .i64) (y := z.2.2) ho
   exact ⟨_, _, fun k => k ∈ pk, inferInstance, hr, FzO.own e (fun k hk => hk), h1, fun k a b => (Heap.dropS_ne (S := fun k => k ∈ pk) (fun hm => by have := hp k hm; omega)).trans (h2 k a b), rfl⟩
theorem o_query_Run (fs : List Fml) (hfs : fs.length ≤ 1048576) (q : QryE) (hqf : q.fine) (clock : Int) (rows : List RowE) (err : Int) (hrw : UL rows) (ks : Nat) {H : Heap} {n : Nat} (hG : GOK 1 1 H n) (hs : H ks = some (srcN rows err)) :
   Zi prog 18 [Zg fs, Zm q, .int .i64 clock, .iface 52 (.loc ks 0 0 0 [])] H n (RunO ks (runE fs q clock (some (rows, err))) H n) :=
 Zi.below hs fun hks => by
   refine Zi.adoptO ks 1 (ver := 0) (e := 5) (els := [.agg [.sl 2 (rows.map ZO), .int .i64 err, .int .i64 0, .nilsl, .nilsl]]) (els' := [.agg [.sl 2 (rows.map ZO), .int .i64 err, .int .i64 0, .osl n 0 0 0, .nilsl]]) hs ⟨Adp.agg ⟨.refl _ _, .refl _ _, .refl _ _, Adp.nilsl _, .refl _ _, trivial⟩, trivial⟩ ?_
   refine Zi.adoptO ks 2 (ver := 0) (e := 5) (els := [.agg [.sl 2 (rows.map ZO), .int .i64 err, .int .i64 0, .osl n 0 0 0, .nilsl]]) (els' := [VX rows err 0 n 0 0 (n + 1) 0 0]) (MF _ _ _) ⟨Adp.agg ⟨.refl _ _, .refl _ _, .refl _ _, .refl _ _, Adp.nilsl _, trivial⟩, trivial⟩ ?_
   obtain ⟨H2, hH2⟩ : ∃ x, x = (((((H.put n (some (.arr 0 1 []))).put ks (some (.arr 0 5 [.agg [.sl 2 (rows.map ZO), .int .i64 err, .int .i64 0, .osl n 0 0 0, .nilsl]]))).put (n + 1) (some (.arr 0 2 []))).put ks (some (.arr 0 5 [VX rows err 0 n 0 0 (n + 1) 0 0]))) : Heap) := ⟨_, rfl⟩
   rw [← hH2]
   have g1 : H2 ks = some (.arr 0 5 [VX rows err 0 n 0 0 (n + 1) 0 0]) := by rw [hH2]; (try simp only [MG]); (repeat first | rw [if_pos rfl] | rw [if_pos trivial] | rw [if_neg om])
   have g2 : H2 n = some (.arr 0 1 []) := by rw [hH2]; (try simp only [MG]); (repeat first | rw [if_pos rfl] | rw [if_pos trivial] | rw [if_neg om])
   have g3 : H2 (n + 1) = some (.arr 0 2 []) := by rw [hH2]; (try simp only [MG]); (repeat first | rw [if_pos rfl] | rw [if_pos trivial] | rw [if_neg om])
   have g4 : ∀ k, k < n → k ≠ ks → H2 k = H k := fun k a b => by rw [hH2]; (try simp only [MG]); (repeat first | rw [if_pos rfl] | rw [if_pos trivial] | rw [if_neg om])
   have hne : ∀ g o, H g = some (.glob o Uc) → g ≠ ks := fun g o hg e => by rw [e, hs] at hg; cases hg
   have hne2 : ∀ g o, H g = some (.glob o LK) → g ≠ ks := fun g o hg e => by rw [e, hs] at hg; cases hg
   have hG2 : GOK 1 1 H2 (n + 1 + 1) := hG.at2 (by
     by_cases hn : (1 : Nat) = 1
     ·rw [hn]; exact g4 _ hG.get (hne _ _ hG.table)
     ·exact g4 _ hG.gek (hne2 _ _ (hG.kindsC hn))) (g4 _ hG.get (hne _ _ hG.table)) om
   have hS : SrcS rows err ks n (n + 1) (n + 2) 0 0 0 [] [] [] H2 (n + 1 + 1) := ⟨g1, g2, fun p hp => (by cases hp), fun p hp => (by cases hp), osi, g3, Pile.nil _ _ _, om, fun p hp => (by cases hp)⟩
   refine (x_query_Run fs hfs q hqf clock rows err hrw ks n (n + 1) (n + 2) 0 0 hG2 (QL.ro q H2) (fun j hj => by cases hj) hS).mono ?_
   rintro res H3 n3 ⟨h1, h2, a, pk, vw, vt, kb, tels, tk, hr, ho, hd, hp, _⟩
   exact ⟨om, fun k a b => (h2 k om b om om).trans (g4 k a b), a, pk, hr, ho, hd, fun k hk => by have := hp k hk; omega⟩
theorem Wm (fs : List Fml) (hfs : fs.length ≤ 1048576) (q : QryE) (hqf : q.fine) (clock : Int) (rows : List RowE) (err : Int) (hrw : UL rows) (ks : Nat) {H : Heap} {n : Nat} (hG : GOK 1 1 H n) (hs : H ks = some (srcN rows err)) :
 Zi prog 18 [Zg fs, Zm q, .int .i64 clock, .iface 52 (.loc ks 0 0 0 [])] H n (RunP ks (runE fs q clock (some (rows, err))) H n) := RunO.frz (o_query_Run fs hfs q hqf clock rows err hrw ks hG hs)
def twoF : List Fml := [⟨[97], 3, 0⟩, ⟨[98], 3, 0⟩]
def X7 (i : Nat) : RowE := ⟨[114, UInt8.ofNat (49 + i)], [⟨0, [120], 5, [49]⟩, ⟨1, [121], 4, [50]⟩]⟩
def Ya : List RowE := [X7 0, X7 1, X7 2]
open N0 in
theorem UZ (H : Heap) (n : Nat) : Ret prog 14 [] H n (Zg twoF) H n := by
 refine Ret.fin ?_
 refine fw func14 ntmps14 results14 ?_
 refine kcu ?_
 refine kcu ?_
 refine ar ?_
 exact ⟨_, rfl, fun k hk => oh, .kl (kl_sch twoF _)⟩
theorem plain_at {i : Nat} (h : i < 3) : Ya.getD i default = X7 i := by rcases i with _ | _ | _ | i <;> first | rfl | omega
theorem plain_byte {i : Nat} (h : i < 3) : Zd (UInt8.ofNat (49 + i)) = .int .u8 ((49 + i : Nat) : Int) := by rcases i with _ | _ | _ | i <;> first | rfl | omega
theorem NE60.eqs {P Q : Prop} (g : Imp P Q := by (try simp only [go_sem, seval, e1, e2, e3, e4, g1, g2, g3, g4, g5, g6, hst, Nat.add_assoc]); exact MI) : Imp P Q := g
theorem NE60.inz {P Q : Prop} (g : Imp P Q := by refine Imp.up eqs ?_; (repeat (first | (refine Imp.nd ?_ ?_; · first | exact ⟨rfl, fun x hx => by simp only [List.mem_cons, List.not_mem_nil, or_false] at hx; rcases hx with rfl | rfl <;> exact ⟨rfl, rfl⟩⟩ | exact ⟨1, rfl, rfl⟩) | refine Imp.pl ?_)); exact MI) : Imp P Q := g
set_option maxHeartbeats 1600000 in
open NE60 in
theorem VP (H : Heap) (n : Nat) : Ret prog 17 [] H n (.sl 2 (Ya.map ZO)) H n := by
 have e1 : n = n := rfl
 have e2 : n = n := rfl
 have e3 : n = n := rfl
 have e4 : n = n := rfl
 have g6 : n = n := rfl
 have hst : n = n := rfl
 have g1 : ∀ k : Nat, (k = k + 1) = False := fun k => by simp
 have g2 : ∀ k : Nat, (k = k + 2) = False := fun k => by simp
 have g3 : ∀ k : Nat, (k = k + 3) = False := fun k => by simp
 have g4 : ∀ k : Nat, (k = k + 4) = False := fun k => by simp
 have g5 : ∀ k : Nat, (k = k + 5) = False := fun k => by simp
 refine Ret.fin ?_
 refine fw func17 ntmps17 results17 ?_
 refine rg zs [] ?_
 refine rg zs [1] ?_
 refine Zb fun K1 hK1 => ?_
 refine YK 1 2 rfl ?_
 refine rg zs [1, 2] ?_
 refine ZJ ?_
 refine Zo (fun T' H' n' => ∃ i : Nat, i ≤ 3 ∧ T' = tl [(1, .osl n i 0 i), (2, .int .i64 i)] ∧ H' n = some (.arr i 2 ((Ya.take i).map ZO)) ∧ (∀ k, k < n → H' k = H k) ∧ n' = n + 1 + 6 * i) (fun T' _ _ => 3 - iv (T' 2)) ?_ ?_
 ·exact ⟨0, by omega, rfl, by (try simp only [MG]); (repeat first | rw [if_pos rfl] | rw [if_pos trivial] | rw [if_neg (by omega)]); rfl, fun k hk => by (try simp only [MG]); (repeat first | rw [if_pos rfl] | rw [if_pos trivial] | rw [if_neg (by omega)]), rfl⟩
 rintro T1 H1 n1 ⟨i, hi, rfl, b1, hlow, hn1⟩
 refine Zb fun K2 hK2 => ?_
 refine rg zs [1, 2, 5] ?_
 refine Za ?_ ?_ <;> intro hb
 ·have hci : i < 3 := by have := of_decide_eq_true hb; omega
  have e1 : IntKind.i64.wrap (49 + (i : Int)) = ((49 + i : Nat) : Int) := by rw [w64 (by omega) (by omega)]; omega
  have e2 : IntKind.u8.wrap ((49 + i : Nat) : Int) = ((49 + i : Nat) : Int) := by rcases i with _ | _ | _ | i <;> first | rfl | omega
  have e3 : IntKind.i64.wrap ((i : Int) + 1) = ((i + 1 : Nat) : Int) := w1 (by omega)
  have e4 : (n = n1) = False := by simp; omega
  refine ak ?_
  apply hK2
  refine bk fun K3 hK3 => ?_
  refine rg zs [1, 2, 3] ?_
  refine rg zo [1, 2, 3] ?_
  refine Mq (n1 + 5) n1 (ver := 0) (e := 4) (els := (X7 i).cells.map Zv) (vj := 0) (ej := 2) (lj := [.agg [.sl 1 [.int .u8 114, .int .u8 ((49 + i : Nat) : Int)], .osl (n1 + 5) 0 0 2]]) (lj' := [ZO (X7 i)]) (by (try simp only [MG]); (repeat first | rw [if_pos rfl] | rw [if_pos trivial] | rw [if_neg (by omega)]); rfl) (by (try simp only [MG]); (repeat first | rw [if_pos rfl] | rw [if_pos trivial] | rw [if_neg (by omega)])) (by omega) ⟨FzV.agg ⟨?_, FzV.osl (off := 0) (len := 2) (by simp [X7]), trivial⟩, trivial⟩ ?_
  ·rw [← plain_byte hci]; exact .refl _
  have g6 : ∀ j : Nat, (n = n1 + j) = False := fun j => by simp; omega
  have hst : strip true (ZO (X7 i)) = ZO (X7 i) := rfl
  have hl : (List.map ZO (List.take i Ya)).length = i := by rw [List.length_map, List.length_take, show Ya.length = 3 from rfl]; omega
  have hrs := rowAV_sz (X7 i)
  have hrm : (ZO (X7 i)).memOK = true := rfl
  have hra : (ZO (X7 i)).isAgg = true := rfl
  refine ZV zs [1, 2] fun K V => ?_
  try simp only [go_sem, seval, e1, e2, e3, e4, g1, g2, g3, g4, g5, g6, hst, Nat.add_assoc, hrs, hrm, hra, b1]
  repeat (first | (refine And.intro ?_ ?_; · first | exact ⟨by omega, .inr trivial, by omega, by omega⟩ | exact ⟨rfl, fun x hx => by rw [List.mem_singleton.1 hx]; exact ⟨hrs, hrm⟩⟩) | refine peel ?_)
  apply V; clear V K
  refine ns ?_
  apply hK3
  refine rg1 zs [1, 2] ?_
  refine ⟨⟨i + 1, by omega, rfl, ?_, fun k hk => by (try simp only [MG]); (repeat first | rw [if_pos rfl] | rw [if_pos trivial] | rw [if_neg (by omega)]); exact hlow k hk, by omega⟩, by omega⟩
  rw [Qd Ya (show i < Ya.length from hci), plain_at hci]
  (try simp only [MG]); (repeat first | rw [if_pos rfl] | rw [if_pos trivial] | rw [if_neg (by omega)])
  rw [List.take_of_length_le (by omega), List.map_append]; rfl
 have hci : i = 3 := by have := of_decide_eq_false hb; omega
 subst hci
 refine ax ?_
 apply hK1
 refine rg zs [0] ?_
 refine ar ?_
 exact ⟨_, rfl, hlow,   .osl b1 (by omega) (by simp [Ya]) (by rw [List.take_of_length_le (show Ya.length ≤ 3 from Nat.le_refl 3), List.drop_zero, List.take_of_length_le (show (Ya.map ZO).length ≤ 3 from Nat.le_refl 3)]; exact Un _ (VB ZO (fun x => kl_rowAV x n) _))⟩
def q0 : QryE := { frm := [], to := [], fams := [], pre := [], time := 0, n := 1, rows := 2, rev := false, whr := [118, 97, 108, 117, 101, 32, 61, 32, 34, 49, 34], token := [] }
def pg0 : PgE := (runE twoF q0 9 (some (Ya, 0))).1
def q1 : QryE := { q0 with token := pg0.token }
def pg1 : PgE := (runE twoF q1 99 (some (Ya.drop 2, 0))).1
theorem st1 : (runE twoF q0 9 (some (Ya, 0))).2.2 = 0 ∧ pg0.rows.length = 2 ∧ (pg0.rows.getD 0 default).cells.length = 1 ∧ pg0.done = false ∧ pg0.token.length ≠ 0 ∧ pg0.token.length ≤ 1000 := by decide +kernel
theorem st2 : YI q1 = ([114, 50, 0], true, 0) := by decide +kernel
theorem st3 : (runE twoF q1 99 (some (Ya.drop 2, 0))).2.2 = 0 ∧ pg1.rows.length = 1 ∧ pg1.done = true ∧ pg1.token = [] := by decide +kernel
theorem q0_fine : q0.fine := ⟨odc, odc, odc, odc, odc, odc⟩
theorem q1_fine : q1.fine := ⟨odc, odc, odc, odc, odc, by have := st1.2.2.2.2.2; show pg0.token.length ≤ _; omega⟩
theorem Q6 : UL Ya := ⟨odc, fun x hx => by simp only [Ya, List.mem_cons, List.not_mem_nil, or_false] at hx; rcases hx with rfl | rfl | rfl <;> refine ⟨odc, odc, fun c hc => ?_⟩ <;> simp only [X7, List.mem_cons, List.not_mem_nil, or_false] at hc <;> rcases hc with rfl | rfl <;> decide⟩
theorem UL.drop {l : List RowE} (h : UL l) (k : Nat) : UL (l.drop k) := ⟨by rw [List.length_drop]; have := h.1; omega, fun x hx => h.2 x (List.mem_of_mem_drop hx)⟩
theorem cq_two (H : Heap) : JC prog (.fn (.func 14) [] []) [] H (Zg twoF) := fun m => Zt func14 rfl rfl rfl (UZ H m) ⟨rfl, rfl, rfl⟩
theorem cq_plain (H : Heap) : JC prog (.fn (.func 17) [] []) [] H (.sl 2 (Ya.map ZO)) := fun m => Zt func17 rfl rfl rfl (VP H m) ⟨rfl, rfl, rfl⟩
theorem ret_start (q : QryE) (hq : q.fine) {r : List UInt8 × Bool × Int} (hr : YI q = r) {H : Heap} {n : Nat} (hG : GOK 1 1 H n) : Ret prog 24 [Zm q] H n (.tup [bys r.1, .bool r.2.1, .int .i64 r.2.2]) H n := by
 have := Qv hq hG (QL.ro q H)
 unfold Vs at this
 rw [hr] at this
 exact this
theorem NE70.eqs {P Q : Prop} (g : Imp P Q := by (try simp only [go_sem, seval, hszq, hagq, hmoq, hszp, hagp, hmop, b1, b2, g1, g2, g3, s2, s3, s4, u2, u3, u4, hn0, pgAV, ZO, bys, Nat.add_assoc, List.length_map, Int.toNat_natCast]); exact MI) : Imp P Q := g
theorem NE70.sd {P : Prop} (g : P := by first | ((repeat' apply And.intro) <;> first | (intro d hd; cases hd; exact cq_two _) | (intro d hd; cases hd; exact cq_plain _) | (intro g; trivial) | (intro g; rfl)) | exact ⟨1, rfl, rfl⟩ | fail) : P := g
set_option maxRecDepth 100000 in
set_option maxHeartbeats 3200000 in
open NE70 NZ in
theorem KI (H : Heap) (n : Nat) (hG : GOK 1 1 H n) : Ret prog 31 [] H n (.bool true) H n := by
 have hszq : ∀ q, (Zm q).sz = 10 := Y0
 have hagq : ∀ q, (Zm q).isAgg = true := fun _ => rfl
 have hmoq : ∀ q, (Zm q).memOK = true := fun _ => rfl
 have hszp : ∀ p, (pgAV p).sz = 3 := fun _ => rfl
 have hagp : ∀ p, (pgAV p).isAgg = true := fun _ => rfl
 have hmop : ∀ p, (pgAV p).memOK = true := fun _ => rfl
 have hg1 := hG.gek
 have hg2 := hG.get
 obtain ⟨s1, s2, s3, s4, s5, s6⟩ := st1
 obtain ⟨u1, u2, u3, u4⟩ := st3
 have hn0 : nth (pg0.rows.map ZO) 0 = ZO (pg0.rows.getD 0 default) := ZP ZO _ 0 om
 have b1 := hG
 have b2 := hG
 have g1 : (n = n + 1) = False := osi
 have g2 : (n = n + 2) = False := osi
 have g3 := hG
 refine Ret.fin ?_
 refine fw func31 ntmps31 results31 ?_
 refine rg zs [] ?_
 refine rg zs [1] ?_
 refine Mo n (els' := [Zm q0]) (MF _ _ _) ⟨Wk.agg ⟨Wk.nilsl 1, Wk.nilsl 1, Wk.nilsl 1, Wk.nilsl 1, .refl _, .refl _, .refl _, .refl _, .refl _, Wk.nilsl 1, trivial⟩, trivial⟩ ?_
 refine awp_seq_j (fun T' H' n' => ∃ kp : Nat, T' = tl [(1, .loc n 0 0 0 []), (2, .loc kp 0 0 0 []), (3, .int .i64 0)] ∧ H' n = some (.arr 0 10 [Zm q0]) ∧ H' kp = some (.arr 0 3 [pgAV pg0]) ∧ n < kp ∧ kp < n' ∧ ∀ k, k < n → H' k = H k) ?_ ?_
 ·refine awp_tree1 rfl zs [1, 2, 3] 10 [.c, .q, .c, .q, .w [1], .q, .w [], .m, .q, .q, .w [], .w [9], .q] [0, 1, 2, 3, 4, 5, 6, 7, 8, 9] [11, 12] (.w [0, 1, 2, 3, 5, 8, 9]) [(4, .w [0, 1, 2, 3]), (6, .w [0, 1, 2, 3, 5])] [0, 1, 2, 3, 4, 5, 6, 7, 8, 9, 0, 10, 11] odc (by kernel_rfl) (fun _ _ _ _ _ h => h) fun K V => ?_
  refine nz ?_
  refine cq func14 (fun _ n => (UZ _ _)) ?_
  refine cq func17 (fun _ n => (VP _ _)) ?_
  refine And.intro ?_ ?_
  ·refine nz ?_
   refine Zl (args' := [Zg twoF, Zm q0, .int .i64 9, .iface 52 (.loc _ 0 0 0 [])]) func18 rfl rfl rfl ((Wm twoF odc q0 q0_fine 9 Ya 0 Q6 _ ?_ ?_)) ?_ ?_
   ·exact hG.on (fun k hk => oh) om
   ·refine ohx ?_; rfl
   rotate_left
   ·exact kb4
   intro rr H1 n1 hc
   obtain ⟨hn1, hlo1, hr⟩ := hc
   rw [s1, show (runE twoF q0 9 (some (Ya, 0))).1 = pg0 from rfl] at hr
   cases hr
   have g3 : (n = n1) = False := oz
   have b2 : H1 n = some (.arr 0 10 [Zm q0]) := (hlo1 _ om om).trans oh
   have b1 : H1 (n + 1) = some (.arr 0 3 [.agg [.nilsl, .nilsl, .bool false]]) := (hlo1 _ om om).trans oh
   exact kak
  refine nz ?_
  refine And.intro ?_ ?_
  ·refine nz ?_
   refine Zl (args' := [Zg twoF, Zm q0, .int .i64 9, .iface 52 (.loc _ 0 0 0 [])]) func18 rfl rfl rfl ((Wm twoF odc q0 q0_fine 9 Ya 0 Q6 _ ?_ ?_)) ?_ ?_
   ·exact hG.on (fun k hk => oh) om
   ·refine ohx ?_; rfl
   rotate_left
   ·exact kb4
   intro rr H1 n1 hc
   obtain ⟨hn1, hlo1, hr⟩ := hc
   rw [s1, show (runE twoF q0 9 (some (Ya, 0))).1 = pg0 from rfl] at hr
   cases hr
   have g3 : (n = n1) = False := oz
   have b2 : H1 n = some (.arr 0 10 [Zm q0]) := (hlo1 _ om om).trans oh
   have b1 : H1 (n + 2) = some (.arr 0 3 [.agg [.nilsl, .nilsl, .bool false]]) := (hlo1 _ om om).trans oh
   exact kak
  refine nz ?_
  refine Zl (args' := [Zg twoF, Zm q0, .int .i64 9, .iface 52 (.loc _ 0 0 0 [])]) func18 rfl rfl rfl ((Wm twoF odc q0 q0_fine 9 Ya 0 Q6 _ ?_ ?_)) ?_ ?_
  ·exact hG.on (fun k hk => oh) om
  ·refine ohx ?_; rfl
  rotate_left
  ·exact kb4
  intro rr H1 n1 hc
  obtain ⟨hn1, hlo1, hr⟩ := hc
  rw [s1, show (runE twoF q0 9 (some (Ya, 0))).1 = pg0 from rfl] at hr
  cases hr
  have g3 : (n = n1) = False := oz
  have b2 : H1 n = some (.arr 0 10 [Zm q0]) := (hlo1 _ om om).trans oh
  exact kak
 rintro T9 H1 n1 ⟨kp, rfl, b2, b1, hkp, hkn, hlow1⟩
 refine Zb fun K1 hK1 => ?_
 refine rc zs [1, 2, 45] func20 ((VG _ _ _)) ?_
 refine Za ?_ ?_ <;> intro hb
 ·exact absurd hb (by simp [s5])
 refine kay ?_
 refine rg zs [1, 2] ?_
 refine rk zs [1, 2, 4, 5, 6] fun K V => ?_
 refine ck func24 ((ret_start q1 q1_fine st2 (hG.on (fun k hk => ohx (hlow1 k hk)) om))) ?_
 refine kas ?_
 refine Zb fun K2 hK2 => ?_
 refine Zh zs [1, 2, 67] fun K V => ?_
 refine kaY ?_
 repeat refine peel ?_
 refine Zt func20 rfl rfl rfl ((VG _ _ _)) ?_
 refine kaY ?_
 repeat (first | (refine And.intro ?_ ?_; · first | exact ⟨rfl, fun x hx => by simp only [List.mem_cons, List.not_mem_nil, or_false] at hx; rcases hx with rfl | rfl | rfl <;> exact ⟨rfl, rfl⟩⟩) | refine peel ?_)
 refine Yv func26 rfl rfl rfl (fun _ => (c_law13_same [114, 50, 0] [114, 50, 0] _ _)) ?_
 refine kaY ?_
 refine kad ?_
 refine Za ?_ ?_ <;> intro hb
 ·exact kaJ
 refine kaQ ?_
 refine Ym (fun H' n' => H' n = some (.arr 0 10 [Zm q1]) ∧ H' kp = some (.arr 0 3 [pgAV pg0]) ∧ (∀ k, k < n → H' k = H k) ∧ n' = n1) ⟨ohr, ohx b1, fun k hk => ohx (hlow1 k hk), rfl⟩ fun H2 n2 ⟨b2, b1, hlow2, hn2⟩ => ?_
 subst hn2
 have f9 : (n = n2) = False := oz
 have hpl : Ya.length = 3 := rfl
 have hS2 := UL.drop Q6 2
 refine Uv rfl zs [2, 3] [.c, .q, .c, .q, .q, .w [1], .q, .w [], .m, .q, .q, .w [10], .q] [0, 1, 2, 3, 4, 5, 6, 7, 8, 9, 10, 11, 12] [0, 1, 2, 3, 4, 5, 6, 7, 8, 9, 10, 11, 12] (by kernel_rfl) (fun _ _ _ _ _ h => h) fun K V => ?_
 refine kao ?_
 repeat refine peel ?_
 refine XD func14 rfl rfl rfl (fun _ n => (UZ _ _)) ?_
 refine kao ?_
 repeat refine peel ?_
 refine XD func17 rfl rfl rfl (fun _ n => (VP _ _)) ?_
 refine kao ?_
 repeat (first | (refine And.intro ?_ ?_; · first | exact ⟨1, rfl, rfl⟩) | refine peel ?_)
 refine cK func18 ((Wm (H := H2.put n2 (some (srcN (Ya.drop 2) 0))) (n := n2 + 1) twoF odc q1 q1_fine 99 (Ya.drop 2) 0 hS2 n2 (hG.on (fun k hk => ohx (hlow2 k hk)) om) oh)) ?_ ?_
 ·exact kb4
 intro rr H3 n3 hc
 obtain ⟨hn3, hlo3, hr⟩ := hc
 rw [u1, show (runE twoF q1 99 (some (Ya.drop 2, 0))).1 = pg1 from rfl] at hr
 cases hr
 have b1 : H3 kp = some (.arr 0 3 [pgAV pg0]) := (hlo3 _ om om).trans (ohx b1)
 have hlow3 : ∀ k, k < n → H3 k = H k := fun k hk => (hlo3 k om om).trans (ohx (hlow2 k hk))
 refine kao ?_
 refine kad ?_
 refine rc zs [0] func20 ((VG _ _ _)) ?_
 refine ar ?_
 refine ⟨_, rfl, fun k hk => ohx (hlow3 k hk), Frz.eq osi trivial⟩
theorem parse_prn {fs : List Fml} {t : List UInt8} {x : Tst × List UInt8} (h : YU fs t = .ok x) : (XO fs t).1.prn = x.2 ∧ (XO fs t).1.wf ∧ x.2.length ≤ 4294967296 := by
 unfold YU at h
 unfold XO
 split at h
 ·cases h
 rename_i ht
 have ht : t.length ≤ 512 := om
 rw [if_neg om]
 have h1 := JJ (t := t) (s := ⟨0, ⟨0, 0, [], 0, []⟩, [], 0⟩) ht (Nat.zero_le _)
 have e : Ze t (toR ⟨0, ⟨0, 0, [], 0, []⟩, [], 0⟩) = Ze t s0R := by
   unfold Ze Yh toR s0R; by_cases hw : (YY t 0).2.2 = true <;> simp [hw]
 rw [e] at h1
 cases hs : XX t ⟨0, ⟨0, 0, [], 0, []⟩, [], 0⟩ with
 | error p => rw [hs] at h; cases h
 | ok s =>
   have hI := step_QI ht hs
   obtain ⟨s5, s6⟩ := stepF_tx hs
   rw [hs] at h h1
   obtain ⟨e1, e2, _⟩ := h1
   rw [e1, if_neg (Vq s)]
   rw [Zp] at h
   cases hc : XY fs t (8 * t.length + 16) s with
   | error p => rw [hc] at h; cases h
   | ok y =>
     have hgo := (XR (fs := fs) ht (8 * t.length + 16)).1 s y.1 y.2 hI hc
     obtain ⟨_, T, y6, y7, y8⟩ := (condF_tx (fs := fs) ht (8 * t.length + 16)).2.2.2.2 s e2 s5 y hc
     rw [hc, Zp] at h
     split at h
     ·cases h
     cases h
     have hcan : YW none y.2.out = (ZR fs t (8 * t.length + 16) (toR s)).1.prn := by
       obtain ⟨_, _, _, _, _, _, _, _, e9⟩ := y7
       rw [Md, y6, s6]
       simpa [txO] using e9
     refine ⟨hcan.symm, y8, ?_⟩
     have := QM y.2.out none hgo.1.text
     have := hgo.1.outs ht
     show (YW none y.2.out).length ≤ _
     omega
theorem NF60.eqs {P Q : Prop} (g : Imp P Q := by (try simp only [go_sem, seval, hszs, hags, hmos, Zg]); exact MI) : Imp P Q := g
open NF60 NY in
theorem Qr (fs : List Fml) (H : Heap) (n : Nat) : Ret prog 72 [Zg fs] H n (.int .i64 (ZT fs)) H n := by
 have hszs : (Zg fs).sz = 1 := rfl
 have hags : (Zg fs).isAgg = true := rfl
 have hmos : (Zg fs).memOK = true := rfl
 refine Ret.fin ?_
 refine fw func72 ntmps72 results72 ?_
 refine rg zs [1] ?_
 refine rc zs [2] func69 ((QO fs _ _)) ?_
 refine ar ?_
 exact ⟨_, rfl, fun k hk => oh, .kl trivial⟩
theorem NF61.eqs {P Q : Prop} (g : Imp P Q := by (try simp only [go_sem, seval, hszs, hags, hmos, f1, f2, Xa, Y3, YG, Yn, Zg]); exact MI) : Imp P Q := g
set_option maxHeartbeats 3200000 in
open NF61 NY in
theorem QP (fs : List Fml) (hfs : fs.length ≤ 1048576) (t : List UInt8) (H : Heap) (n : Nat) : Ret prog 40 [Zg fs, .str t] H n (.tup [.str (YT fs t).1, .int .i64 (YT fs t).2.1, .int .i64 (YT fs t).2.2]) H n := by
 have hszs : (Zg fs).sz = 1 := rfl
 have hags : (Zg fs).isAgg = true := rfl
 have hmos : (Zg fs).memOK = true := rfl
 have f1 : (n = n + 1) = False := osi
 have f2 : (n + 1 = n) = False := osi
 have hrel := readR_rel fs t
 have hprn := fun x (h : YU fs t = .ok x) => (⟨parse_prn h, (readR_good h).2.1⟩ : ((XO fs t).1.prn = x.2 ∧ (XO fs t).1.wf ∧ x.2.length ≤ 4294967296) ∧ (XO fs t).1.small)
 obtain ⟨r, hr⟩ : ∃ r, r = XO fs t := ⟨_, rfl⟩
 have hread := c_ref13_read fs hfs t
 rw [← hr] at hrel hprn hread
 obtain ⟨z, hz⟩ : ∃ z, z = YT fs t := ⟨_, rfl⟩
 rw [← hz]
 unfold YT at hz
 refine Ret.fin ?_
 refine fw func40 ntmps40 results40 ?_
 refine rg zs [1, 2] ?_
 refine rc zs [1, 2, 7] func72 ((Qr fs _ _)) ?_
 refine Zb fun K1 hK1 => ?_
 refine rg zs [1, 2, 7, 13] ?_
 refine Za ?_ ?_ <;> intro hb
 ·rw [if_pos osb] at hz
  refine rg zs [4, 5, 6] ?_
  refine ar ?_
  rw [hz]; exact ⟨_, rfl, fun k hk => oh, .kl ⟨trivial, trivial, trivial, trivial⟩⟩
 rw [if_neg osb] at hz
 refine ak ?_
 apply hK1
 refine rc zs [8, 9] func71 ((hread _ _)) ?_
 refine Zb fun K2 hK2 => ?_
 refine rg zs [8, 9, 22] ?_
 refine Za ?_ ?_ <;> intro hb
 ·have hge : 0 ≤ r.2 := of_decide_eq_true hb
  have hw : z = ([], 131, r.2) := by
    rw [hz]
    cases hp : YU fs t with
    | ok x => rw [hp] at hrel; have := hrel.1; omega
    | error p => rw [hp] at hrel; rw [hrel]
  refine rg zs [4, 5, 6] ?_
  refine ar ?_
  rw [hw]; exact ⟨_, rfl, fun k hk => oh, .kl ⟨trivial, trivial, trivial, trivial⟩⟩
 have hlt : r.2 < 0 := otf
 obtain ⟨x, hx⟩ : ∃ x, YU fs t = .ok x := by
   cases hp : YU fs t with
   | ok x => exact ⟨x, rfl⟩
   | error p => rw [hp] at hrel; omega
 rw [hx] at hz
 have hz2 : z = (x.2, 0, 0) := hz
 obtain ⟨⟨p1, p2, p3⟩, hsm⟩ := hprn x hx
 refine ak ?_
 apply hK2
 refine rk zs [4, 5, 6] fun K V => ?_
 refine ck func73 ((c_prn r.1 p2 hsm (by rw [p1]; exact p3) _ _)) ?_
 refine kas ?_
 refine ar ?_
 rw [hz2]; simp only; rw [← p1]; exact ⟨_, rfl, fun k hk => oh, .kl ⟨trivial, trivial, trivial, trivial⟩⟩
theorem NF62.eqs {P Q : Prop} (g : Imp P Q := by (try simp only [go_sem, seval, hszs, hags, hmos, e1, r1, hnth, List.length_map, Int.toNat_natCast]); exact MI) : Imp P Q := g
set_option maxHeartbeats 3200000 in
open NF62 NY in
theorem Qt (fs : List Fml) (hfs : fs.length ≤ 1048576) (l : List (List UInt8)) (hl : l.length ≤ 1048576) (H : Heap) (n : Nat) (hG : GOK 1 1 H n) :
   Ret prog 5 [Zg fs, .sl 1 (l.map AV.str)] H n (.bool true) H n := by
 have hszs : (Zg fs).sz = 1 := rfl
 have hags : (Zg fs).isAgg = true := rfl
 have hmos : (Zg fs).memOK = true := rfl
 have e1 := hszs
 have r1 := hszs
 have hnth := hszs
 refine Ret.fin ?_
 refine fw func5 ntmps5 results5 ?_
 refine rg zs [1, 2] ?_
 refine Zb fun K1 hK1 => ?_
 refine rg zs [1, 2, 5] ?_
 refine ZJ ?_
 refine Zo (fun T' H' n' => ∃ i : Nat, i ≤ l.length ∧ T' = tl [(1, .sl 1 (l.map AV.str)), (2, .loc n 0 0 0 []), (5, .int .i64 i)] ∧ H' n = some (.arr 0 1 [Zg fs]) ∧ (∀ k, k < n → H' k = H k) ∧ n' = n + 1) (fun T' _ _ => l.length - iv (T' 5)) ?_ ?_
 ·exact ⟨0, Nat.zero_le _, rfl, ohr, fun k hk => oh, rfl⟩
 rintro T1 H1 n1 ⟨i, hi, rfl, r1, hlow, rfl⟩
 refine Zb fun K2 hK2 => ?_
 refine rg zs [1, 2, 5, 19] ?_
 refine Za ?_ ?_ <;> intro hb
 ·have hci : i < l.length := by have := (Uw hb).1; have := of_decide_eq_true this; omega
  have hnth : nth (l.map AV.str) i = .str (l.getD i default) := ZP AV.str l i hci
  have e1 : IntKind.i64.wrap ((i : Int) + 1) = ((i + 1 : Nat) : Int) := w1 om
  refine ak ?_
  apply hK2
  refine bk fun K3 hK3 => ?_
  refine dx zs [1, 2, 5, 6, 7, 8] [.q, .m, .m, .q, .q, .c, .m, .q, .q, .q, .q, .q, .q] [0, 1, 2, 3, 4, 5, 6, 7, 8, 9, 10, 11, 12] [0, 1, 2, 3, 4, 5, 6, 7, 8, 9, 10, 11, 12] fun K V => ?_
  refine cq func39 (fun _ n => (Vk fs hfs (l.getD i default) _ _)) ?_
  apply V; clear V K
  refine dx zs [1, 2, 5, 6, 7, 8, 9, 10, 11] [.q, .m, .m, .q, .q, .c, .m, .q, .q, .q, .q, .q, .q] [0, 1, 2, 3, 4, 5, 6, 7, 8, 9, 10, 11, 12] [0, 1, 2, 3, 4, 5, 6, 7, 8, 9, 10, 11, 12] fun K V => ?_
  refine cq func40 (fun _ n => (QP fs hfs (l.getD i default) _ _)) ?_
  apply V; clear V K
  refine rk zs [1, 2, 5, 55] fun K V => ?_
  refine cg func20 (fun _ => (VG _ _ _)) ?_
  apply V; clear V K
  refine Za ?_ ?_ <;> intro hb
  ·exact absurd hb osi
  refine ak ?_
  apply hK3
  refine rg1 zs [1, 2, 5] ?_
  exact ⟨⟨i + 1, om, rfl, hlow⟩, om⟩
 refine ax ?_
 apply hK1
 refine rk zs [4] fun K V => ?_
 refine ck func31 ((KI _ _ (hG.on (fun k hk => hlow k hk) om))) ?_
 apply V; clear V K
 refine ar ?_
 exact ⟨_, rfl, fun k hk => hlow k hk, Frz.eq rfl trivial⟩
end Go.Proofs.YtkmkbndcekklmaaGreatDoor