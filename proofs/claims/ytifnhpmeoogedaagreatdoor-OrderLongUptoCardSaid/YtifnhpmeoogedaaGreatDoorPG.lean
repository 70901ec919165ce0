/- Own layer: walks through the lists of conditions and of steps. Of the program; no condition. -/
import Derived.Test.YtifnhpmeoogedaaGreatDoorPF
import Derived.Test.YtifnhpmeoogedaaGreatDoorPE
import Derived.Test.YtifnhpmeoogedaaGreatDoorPD
set_option linter.unusedSimpArgs false
set_option linter.unusedVariables false
namespace Go.Proofs.YtifnhpmeoogedaaGreatDoor
open Go Go.Sx Go.Rt Go.Proofs
def idxC (p : CondE → Bool) : List CondE → Nat → Int
  | [], _ => -1
  | x :: l, i => if p x then i else idxC p l (i + 1)
theorem idxC_ge (p : CondE → Bool) : ∀ (l : List CondE) (i : Nat), decide (0 ≤ idxC p l i) = l.any p
  | [], i => by simp [idxC]
  | x :: l, i => by
    simp only [idxC, List.any_cons]
    by_cases h : p x = true
    · simp [h]
    · simp [h, idxC_ge p l (i + 1)]
theorem c_every1_C (s : List Fml) (hs : s.length ≤ 2000000) (c : CondE) (k1 k2 : Nat) (H : Heap) (n : Nat) (h1 : H k1 = some (.arr 0 1 [.fn (.func 50) [] []])) (h2 : H k2 = some (.arr 0 1 [schAV s])) (hk1 : k1 < n) (hk2 : k2 < n) :
    Ret Tryz.prog 106 [condAV c, .loc k1 0 0 0 [], .loc k2 0 0 0 []] H n (.bool (!condOK s.length c)) H n := by
  have e1 : (k1 = n) = False := by simp; omega
  have e2 : (k2 = n) = False := by simp; omega
  have e3 : AV.sz (schAV s) = 1 := rfl
  have e4 : AV.sz (condAV c) = 4 := condAV_sz c
  have e5 : (condAV c).isAgg = true := rfl
  have e6 : (schAV s).isAgg = true := rfl
  have e7 : (condAV c).memOK = true := rfl
  refine Ret.fin ?_
  refine acalls_of_awp Tryz.func106 rfl Tryz.ntmps106 (congrArg Array.toList Tryz.results106) (by simp) ?_
  simp only [go_sem]
  refine awp_reg zs [1, 2, 3] fun K hK => ?_
  try simp only [go_sem, seval, e4, e7]
  refine hK _ _ _ ?_; clear hK K
  refine awp_reg zs [4] fun K hK => ?_
  try simp only [go_sem, seval, h1, h2, e1, e2, e4, e5]
  refine callK_use Tryz.func50 rfl rfl rfl (c_order_condition s hs c _ _) ?_
  try simp only [go_sem, seval]
  refine hK _ _ _ ?_; clear hK K
  refine awp_ret ?_
  try simp only [go_sem, seval]
  refine ⟨_, rfl, ?_, Frz.eq rfl trivial⟩
  · intro k hk; have h0 : k ≠ n := by omega
    simp [Heap.put, h0]
theorem c_slices_IndexFunc_C (l : List CondE) (hl : l.length ≤ 1048576) (f : FuncId) {fn : Func} (captured : List AV) (p : CondE → Bool) (H : Heap) (n : Nat) (hf : (Tryz.prog).funcs[f]? = some fn) (hbd : fn.body.isSome = true) (hn : (fn.name == "runtime.NumGoroutine") = false)
    (hp : ∀ x ∈ l, Ret Tryz.prog f (condAV x :: captured) H n (.bool (p x)) H n) :
    Ret Tryz.prog 139 [.sl 4 (l.map condAV), .fn (.func f) [] captured] H n (.int .i64 (idxC p l 0)) H n := by
  refine acalls_of_awp Tryz.func139 rfl Tryz.ntmps139 (congrArg Array.toList Tryz.results139) (by simp) ?_
  simp only [go_sem]
  refine awp_reg zs [0, 1] fun K hK => ?_
  try simp only [go_sem, seval]
  refine hK _ _ _ ?_; clear hK K
  refine awp_seq_k fun K1 hK1 => ?_
  refine awp_reg zs [0, 1, 7, 8] fun K hK => ?_
  try simp only [go_sem, seval, List.length_map]
  refine hK _ _ _ ?_; clear hK K
  refine awp_block ?_
  refine awp_loop (fun T' H' n' => ∃ i : Nat, i ≤ l.length ∧ T' = tl [(0, .sl 4 (l.map condAV)), (1, .fn (.func f) [] captured), (7, .int .i64 l.length), (8, .int .i64 i)] ∧ H' = H ∧ n' = n ∧ idxC p (l.drop i) i = idxC p l 0) (fun T' _ _ => l.length - iv (T' 8)) ?_ ?_
  ·skip
   exact ⟨0, Nat.zero_le _, rfl, rfl, rfl, rfl⟩
  intro T1 H1 n1
  rintro ⟨i, hi, rfl, rfl, rfl, hix⟩
  refine awp_reg zs [0, 1, 7, 8, 9] fun K hK => ?_
  try simp only [go_sem, seval]
  refine hK _ _ _ ?_; clear hK K
  refine awp_seq_k fun K2 hK2 => ?_
  refine awp_cnd (fun hb => ?_) (fun hb => ?_)
  ·skip
   have hlt : i < l.length := by simpa using hb
   rw [drop_cons l i hlt] at hix
   have hmem : l.getD i default ∈ l := by rw [List.getD, List.getElem?_eq_getElem hlt]; exact List.getElem_mem _
   have hnth : nth (l.map condAV) i = condAV (l.getD i default) := nth_map condAV l i hlt
   have e4 : AV.sz (condAV (l.getD i default)) = 4 := condAV_sz _
   have e5 : (condAV (l.getD i default)).isAgg = true := rfl
   refine awp_skip ?_
   try simp only [go_sem, seval]
   refine hK2 _ _ _ ?_
   first | clear hK2 K2 | skip
   refine awp_seq_k fun K3 hK3 => ?_
   refine awp_block ?_
   refine awp_reg zs [0, 1, 5, 7, 8] fun K hK => ?_
   try simp only [go_sem, seval]
   refine hK _ _ _ ?_; clear hK K
   refine awp_reg zs [0, 1, 5, 7, 8, 16] fun K hK => ?_
   try simp only [go_sem, seval, List.length_map, Int.toNat_natCast, hnth, e4, e5]
   repeat refine peel ?_
   refine callK_use hf hbd hn rfl (hp _ hmem) ?_
   refine hK _ _ _ ?_; clear hK K
   refine awp_cnd (fun hb => ?_) (fun hb => ?_)
   ·skip
    have hres : (i : Int) = idxC p l 0 := by rw [← hix, idxC, if_pos (show p (l.getD i default) = true from hb)]
    refine awp_reg zs [4] fun K hK => ?_
    try simp only [go_sem, seval]
    refine hK _ _ _ ?_; clear hK K
    refine awp_ret ?_
    try simp only [go_sem, seval]
    rw [hres]
   ·skip
    have hnext : idxC p (l.drop (i + 1)) (i + 1) = idxC p l 0 := by rw [← hix, idxC, if_neg (by rw [show p (l.getD i default) = false from hb]; simp)]
    refine awp_skip ?_
    try simp only [go_sem, seval]
    refine hK3 _ _ _ ?_
    first | clear hK3 K3 | skip
    refine awp_reg1 zs [0, 1, 7, 8] fun K hK => ?_
    try simp only [go_sem, seval]
    refine hK _ _ _ ?_; clear hK K
    try simp only [go_sem, seval]
    exact ⟨⟨i + 1, by omega, by rw [w1 (by omega)], hnext⟩, by rw [w1 (by omega)]; simp; omega⟩
  ·skip
   have hge : i = l.length := by simp at hb; omega
   have hres : (-1 : Int) = idxC p l 0 := by rw [← hix, hge]; simp [idxC]
   refine awp_exit ?_
   try simp only [go_sem, seval]
   refine hK1 _ _ _ ?_
   first | clear hK1 K1 | skip
   refine awp_reg zs [4] fun K hK => ?_
   try simp only [go_sem, seval]
   refine hK _ _ _ ?_; clear hK K
   refine awp_ret ?_
   try simp only [go_sem, seval]
   rw [hres]
theorem c_slices_ContainsFunc_C (l : List CondE) (hl : l.length ≤ 1048576) (f : FuncId) {fn : Func} (captured : List AV) (p : CondE → Bool) (H : Heap) (n : Nat) (hf : (Tryz.prog).funcs[f]? = some fn) (hbd : fn.body.isSome = true) (hn : (fn.name == "runtime.NumGoroutine") = false)
    (hp : ∀ x ∈ l, Ret Tryz.prog f (condAV x :: captured) H n (.bool (p x)) H n) :
    Ret Tryz.prog 105 [.sl 4 (l.map condAV), .fn (.func f) [] captured] H n (.bool (l.any p)) H n := by
  refine acalls_of_awp Tryz.func105 rfl Tryz.ntmps105 (congrArg Array.toList Tryz.results105) (by simp) ?_
  simp only [go_sem]
  refine awp_rq zs [0, 1] ?_
  refine awp_reg zs [4] fun K hK => ?_
  try simp only [go_sem, seval]
  refine callK_use Tryz.func139 rfl rfl rfl ((c_slices_IndexFunc_C l hl f captured p H n hf hbd hn hp)) ?_
  try simp only [go_sem, seval]
  refine hK _ _ _ ?_; clear hK K
  refine awp_ret ?_
  try simp only [go_sem, seval]
  rw [← idxC_ge p l 0]
theorem c_order_every_C (s : List Fml) (hs : s.length ≤ 2000000) (l : List CondE) (hl : l.length ≤ 1048576) (H : Heap) (n : Nat) :
    Ret Tryz.prog 49 [schAV s, .sl 4 (l.map condAV), .fn (.func 50) [] []] H n (.bool (l.all (condOK s.length))) H n := by
  have e3 : AV.sz (schAV s) = 1 := rfl
  refine Ret.fin ?_
  refine acalls_of_awp Tryz.func49 rfl Tryz.ntmps49 (congrArg Array.toList Tryz.results49) (by simp) ?_
  simp only [go_sem]
  refine awp_reg zs [1, 3, 5] fun K hK => ?_
  try simp only [go_sem, seval]
  refine hK _ _ _ ?_; clear hK K
  refine awp_reg zs [6] fun K hK => ?_
  try simp only [go_sem, seval]
  refine callK_use Tryz.func105 rfl rfl rfl ((c_slices_ContainsFunc_C l hl _ _ (fun x => !condOK s.length x) _ _ Tryz.func106 rfl rfl (fun x _ => c_every1_C s hs x (n + 1) n _ _ (by simp [Heap.put]) (by simp [Heap.put, schAV]) (by omega) (by omega)))) ?_
  try simp only [go_sem, seval]
  refine hK _ _ _ ?_; clear hK K
  refine awp_ret ?_
  try simp only [go_sem, seval]
  refine ⟨_, rfl, ?_, Frz.eq ?_ trivial⟩
  · intro k hk; have h0 : k ≠ n := by omega
    have h1 : ∀ j, k ≠ n + j := fun j => by omega
    simp [Heap.put, h0, h1]
  · congr 1; rw [List.all_eq_not_any_not]
def idxO (p : OpE → Bool) : List OpE → Nat → Int
  | [], _ => -1
  | x :: l, i => if p x then i else idxO p l (i + 1)
theorem idxO_ge (p : OpE → Bool) : ∀ (l : List OpE) (i : Nat), decide (0 ≤ idxO p l i) = l.any p
  | [], i => by simp [idxO]
  | x :: l, i => by
    simp only [idxO, List.any_cons]
    by_cases h : p x = true
    · simp [h]
    · simp [h, idxO_ge p l (i + 1)]
theorem c_every1_O (s : List Fml) (hs : s.length ≤ 2000000) (c : OpE) (k1 k2 : Nat) (H : Heap) (n : Nat) (h1 : H k1 = some (.arr 0 1 [.fn (.func 52) [] []])) (h2 : H k2 = some (.arr 0 1 [schAV s])) (hk1 : k1 < n) (hk2 : k2 < n) :
    Ret Tryz.prog 108 [opAV c, .loc k1 0 0 0 [], .loc k2 0 0 0 []] H n (.bool (!opOK s.length c)) H n := by
  have e1 : (k1 = n) = False := by simp; omega
  have e2 : (k2 = n) = False := by simp; omega
  have e3 : AV.sz (schAV s) = 1 := rfl
  have e4 : AV.sz (opAV c) = 6 := opAV_sz c
  have e5 : (opAV c).isAgg = true := rfl
  have e6 : (schAV s).isAgg = true := rfl
  have e7 : (opAV c).memOK = true := rfl
  refine Ret.fin ?_
  refine acalls_of_awp Tryz.func108 rfl Tryz.ntmps108 (congrArg Array.toList Tryz.results108) (by simp) ?_
  simp only [go_sem]
  refine awp_reg zs [1, 2, 3] fun K hK => ?_
  try simp only [go_sem, seval, e4, e7]
  refine hK _ _ _ ?_; clear hK K
  refine awp_reg zs [4] fun K hK => ?_
  try simp only [go_sem, seval, h1, h2, e1, e2, e4, e5]
  refine callK_use Tryz.func52 rfl rfl rfl (c_order_step s hs c _ _) ?_
  try simp only [go_sem, seval]
  refine hK _ _ _ ?_; clear hK K
  refine awp_ret ?_
  try simp only [go_sem, seval]
  refine ⟨_, rfl, ?_, Frz.eq rfl trivial⟩
  · intro k hk; have h0 : k ≠ n := by omega
    simp [Heap.put, h0]
theorem c_slices_IndexFunc_O (l : List OpE) (hl : l.length ≤ 1048576) (f : FuncId) {fn : Func} (captured : List AV) (p : OpE → Bool) (H : Heap) (n : Nat) (hf : (Tryz.prog).funcs[f]? = some fn) (hbd : fn.body.isSome = true) (hn : (fn.name == "runtime.NumGoroutine") = false)
    (hp : ∀ x ∈ l, Ret Tryz.prog f (opAV x :: captured) H n (.bool (p x)) H n) :
    Ret Tryz.prog 140 [.sl 6 (l.map opAV), .fn (.func f) [] captured] H n (.int .i64 (idxO p l 0)) H n := by
  refine acalls_of_awp Tryz.func140 rfl Tryz.ntmps140 (congrArg Array.toList Tryz.results140) (by simp) ?_
  simp only [go_sem]
  refine awp_reg zs [0, 1] fun K hK => ?_
  try simp only [go_sem, seval]
  refine hK _ _ _ ?_; clear hK K
  refine awp_seq_k fun K1 hK1 => ?_
  refine awp_reg zs [0, 1, 7, 8] fun K hK => ?_
  try simp only [go_sem, seval, List.length_map]
  refine hK _ _ _ ?_; clear hK K
  refine awp_block ?_
  refine awp_loop (fun T' H' n' => ∃ i : Nat, i ≤ l.length ∧ T' = tl [(0, .sl 6 (l.map opAV)), (1, .fn (.func f) [] captured), (7, .int .i64 l.length), (8, .int .i64 i)] ∧ H' = H ∧ n' = n ∧ idxO p (l.drop i) i = idxO p l 0) (fun T' _ _ => l.length - iv (T' 8)) ?_ ?_
  ·skip
   exact ⟨0, Nat.zero_le _, rfl, rfl, rfl, rfl⟩
  intro T1 H1 n1
  rintro ⟨i, hi, rfl, rfl, rfl, hix⟩
  refine awp_reg zs [0, 1, 7, 8, 9] fun K hK => ?_
  try simp only [go_sem, seval]
  refine hK _ _ _ ?_; clear hK K
  refine awp_seq_k fun K2 hK2 => ?_
  refine awp_cnd (fun hb => ?_) (fun hb => ?_)
  ·skip
   have hlt : i < l.length := by simpa using hb
   rw [drop_cons l i hlt] at hix
   have hmem : l.getD i default ∈ l := by rw [List.getD, List.getElem?_eq_getElem hlt]; exact List.getElem_mem _
   have hnth : nth (l.map opAV) i = opAV (l.getD i default) := nth_map opAV l i hlt
   have e4 : AV.sz (opAV (l.getD i default)) = 6 := opAV_sz _
   have e5 : (opAV (l.getD i default)).isAgg = true := rfl
   refine awp_skip ?_
   try simp only [go_sem, seval]
   refine hK2 _ _ _ ?_
   first | clear hK2 K2 | skip
   refine awp_seq_k fun K3 hK3 => ?_
   refine awp_block ?_
   refine awp_reg zs [0, 1, 5, 7, 8] fun K hK => ?_
   try simp only [go_sem, seval]
   refine hK _ _ _ ?_; clear hK K
   refine awp_reg zs [0, 1, 5, 7, 8, 16] fun K hK => ?_
   try simp only [go_sem, seval, List.length_map, Int.toNat_natCast, hnth, e4, e5]
   repeat refine peel ?_
   refine callK_use hf hbd hn rfl (hp _ hmem) ?_
   refine hK _ _ _ ?_; clear hK K
   refine awp_cnd (fun hb => ?_) (fun hb => ?_)
   ·skip
    have hres : (i : Int) = idxO p l 0 := by rw [← hix, idxO, if_pos (show p (l.getD i default) = true from hb)]
    refine awp_reg zs [4] fun K hK => ?_
    try simp only [go_sem, seval]
    refine hK _ _ _ ?_; clear hK K
    refine awp_ret ?_
    try simp only [go_sem, seval]
    rw [hres]
   ·skip
    have hnext : idxO p (l.drop (i + 1)) (i + 1) = idxO p l 0 := by rw [← hix, idxO, if_neg (by rw [show p (l.getD i default) = false from hb]; simp)]
    refine awp_skip ?_
    try simp only [go_sem, seval]
    refine hK3 _ _ _ ?_
    first | clear hK3 K3 | skip
    refine awp_reg1 zs [0, 1, 7, 8] fun K hK => ?_
    try simp only [go_sem, seval]
    refine hK _ _ _ ?_; clear hK K
    try simp only [go_sem, seval]
    exact ⟨⟨i + 1, by omega, by rw [w1 (by omega)], hnext⟩, by rw [w1 (by omega)]; simp; omega⟩
  ·skip
   have hge : i = l.length := by simp at hb; omega
   have hres : (-1 : Int) = idxO p l 0 := by rw [← hix, hge]; simp [idxO]
   refine awp_exit ?_
   try simp only [go_sem, seval]
   refine hK1 _ _ _ ?_
   first | clear hK1 K1 | skip
   refine awp_reg zs [4] fun K hK => ?_
   try simp only [go_sem, seval]
   refine hK _ _ _ ?_; clear hK K
   refine awp_ret ?_
   try simp only [go_sem, seval]
   rw [hres]
theorem c_slices_ContainsFunc_O (l : List OpE) (hl : l.length ≤ 1048576) (f : FuncId) {fn : Func} (captured : List AV) (p : OpE → Bool) (H : Heap) (n : Nat) (hf : (Tryz.prog).funcs[f]? = some fn) (hbd : fn.body.isSome = true) (hn : (fn.name == "runtime.NumGoroutine") = false)
    (hp : ∀ x ∈ l, Ret Tryz.prog f (opAV x :: captured) H n (.bool (p x)) H n) :
    Ret Tryz.prog 107 [.sl 6 (l.map opAV), .fn (.func f) [] captured] H n (.bool (l.any p)) H n := by
  refine acalls_of_awp Tryz.func107 rfl Tryz.ntmps107 (congrArg Array.toList Tryz.results107) (by simp) ?_
  simp only [go_sem]
  refine awp_rq zs [0, 1] ?_
  refine awp_reg zs [4] fun K hK => ?_
  try simp only [go_sem, seval]
  refine callK_use Tryz.func140 rfl rfl rfl ((c_slices_IndexFunc_O l hl f captured p H n hf hbd hn hp)) ?_
  try simp only [go_sem, seval]
  refine hK _ _ _ ?_; clear hK K
  refine awp_ret ?_
  try simp only [go_sem, seval]
  rw [← idxO_ge p l 0]
theorem c_order_every_O (s : List Fml) (hs : s.length ≤ 2000000) (l : List OpE) (hl : l.length ≤ 1048576) (H : Heap) (n : Nat) :
    Ret Tryz.prog 51 [schAV s, .sl 6 (l.map opAV), .fn (.func 52) [] []] H n (.bool (l.all (opOK s.length))) H n := by
  have e3 : AV.sz (schAV s) = 1 := rfl
  refine Ret.fin ?_
  refine acalls_of_awp Tryz.func51 rfl Tryz.ntmps51 (congrArg Array.toList Tryz.results51) (by simp) ?_
  simp only [go_sem]
  refine awp_reg zs [1, 3, 5] fun K hK => ?_
  try simp only [go_sem, seval]
  refine hK _ _ _ ?_; clear hK K
  refine awp_reg zs [6] fun K hK => ?_
  try simp only [go_sem, seval]
  refine callK_use Tryz.func107 rfl rfl rfl ((c_slices_ContainsFunc_O l hl _ _ (fun x => !opOK s.length x) _ _ Tryz.func108 rfl rfl (fun x _ => c_every1_O s hs x (n + 1) n _ _ (by simp [Heap.put]) (by simp [Heap.put, schAV]) (by omega) (by omega)))) ?_
  try simp only [go_sem, seval]
  refine hK _ _ _ ?_; clear hK K
  refine awp_ret ?_
  try simp only [go_sem, seval]
  refine ⟨_, rfl, ?_, Frz.eq ?_ trivial⟩
  · intro k hk; have h0 : k ≠ n := by omega
    have h1 : ∀ j, k ≠ n + j := fun j => by omega
    simp [Heap.put, h0, h1]
  · congr 1; rw [List.all_eq_not_any_not]
end Go.Proofs.YtifnhpmeoogedaaGreatDoor
namespace Go.Proofs.YtifnhpmeoogedaaGreatDoor
open Go Go.Sx Go.Rt Go.Proofs
theorem o_wire_Uint (v : Nat) (hv : v < 18446744073709551616) (H : Heap) (n : Nat) : Ret Tryz.prog 146 [.int .u64 v] H n (.osl n (uintB v).length 0 (uintB v).length) (H.put n (some (.arr (uintB v).length 1 ((uintB v).map byteAV)))) (n + 1) := by
  have hlen := uintB_len10 hv
  refine acalls_of_awp Tryz.func146 rfl Tryz.ntmps146 (congrArg Array.toList Tryz.results146) (by simp) ?_
  simp only [go_sem]
  refine awp_reg zs [0] fun K hK => ?_
  try simp only [go_sem, seval]
  repeat (first | (refine And.intro ?_ ?_; · first | exact ⟨rfl, by simp [AV.sz, AV.memOK]⟩ | exact ⟨by omega, .inr trivial, by omega, by omega⟩) | refine peel ?_)
  refine hK _ _ _ ?_; clear hK K
  refine awp_reg zs [0, 3] fun K hK => ?_
  try simp only [go_sem, seval]
  repeat (first | (refine And.intro ?_ ?_; · first | exact ⟨rfl, by simp [AV.sz, AV.memOK]⟩ | exact ⟨by omega, .inr trivial, by omega, by omega⟩) | refine peel ?_)
  refine hK _ _ _ ?_; clear hK K
  refine awp_seq_k fun K1 hK1 => ?_
  refine awp_block ?_
  refine awp_adopt_tmp 3 1 rfl ?_
  refine awp_sel [0, 3] ?_
  simp only [go_sem, seval]
  refine awp_loop (fun T' H' n' => ∃ (b : List UInt8) (x : Nat), b ++ uintB x = uintB v ∧ x < 18446744073709551616 ∧ T' = tl [(0, .int .u64 x), (3, .osl n b.length 0 b.length)] ∧ H' = H.put n (some (.arr b.length 1 (b.map byteAV))) ∧ n' = n + 1) (fun T' _ _ => iv (T' 0)) ?_ ?_
  ·skip
   exact ⟨[], v, rfl, hv, rfl, rfl, rfl⟩
  intro T1 H1 n1
  rintro ⟨b, x, hbx, hx, rfl, rfl, rfl⟩
  refine awp_seq_k fun K2 hK2 => ?_
  refine awp_reg zs [0, 3, 5] fun K hK => ?_
  try simp only [go_sem, seval]
  repeat (first | (refine And.intro ?_ ?_; · first | exact ⟨rfl, by simp [AV.sz, AV.memOK]⟩ | exact ⟨by omega, .inr trivial, by omega, by omega⟩) | refine peel ?_)
  refine hK _ _ _ ?_; clear hK K
  refine awp_cnd (fun hb => ?_) (fun hb => ?_)
  ·skip
   have hge : 128 ≤ x := by have := of_decide_eq_true hb; omega
   rw [uintB_ge hge] at hbx
   have hbl : b.length ≤ 10 := by have := congrArg List.length hbx; simp at this; omega
   refine awp_skip ?_
   try simp only [go_sem, seval]
   refine hK2 _ _ _ ?_
   first | clear hK2 K2 | skip
   refine awp_block ?_
   refine awp_reg zs [0, 3] fun K hK => ?_
   try simp only [go_sem, seval, or128, List.length_map]
   repeat (first | (refine And.intro ?_ ?_; · first | exact ⟨rfl, by simp [AV.sz, AV.memOK]⟩ | exact ⟨by omega, .inr trivial, by omega, by omega⟩) | refine peel ?_)
   refine hK _ _ _ ?_; clear hK K
   refine awp_reg1 zs [0, 3] fun K hK => ?_
   try simp only [go_sem, seval, shr7]
   repeat (first | (refine And.intro ?_ ?_; · first | exact ⟨rfl, by simp [AV.sz, AV.memOK]⟩ | exact ⟨by omega, .inr trivial, by omega, by omega⟩) | refine peel ?_)
   refine hK _ _ _ ?_; clear hK K
   try simp only [go_sem, seval]
   refine ⟨⟨b ++ [UInt8.ofNat (x % 128 + 128)], x / 128, by rw [List.append_assoc]; exact hbx, by omega, ?_, ?_⟩, by simp [iv]; omega⟩
   · rw [List.length_append]; rfl
   · rw [List.take_of_length_le (by simp), List.map_append, List.length_append]; rfl
  ·skip
   have hlt : x < 128 := by have := of_decide_eq_false hb; omega
   rw [uintB_lt hlt] at hbx
   have hbl : b.length ≤ 10 := by have := congrArg List.length hbx; simp at this; omega
   refine awp_exit ?_
   try simp only [go_sem, seval]
   refine hK1 _ _ _ ?_
   first | clear hK1 K1 | skip
   refine awp_reg zs [2] fun K hK => ?_
   try simp only [go_sem, seval, byteI_wrap, byteI_nat, List.length_map]
   repeat (first | (refine And.intro ?_ ?_; · first | exact ⟨rfl, by simp [AV.sz, AV.memOK]⟩ | exact ⟨by omega, .inr trivial, by omega, by omega⟩) | refine peel ?_)
   refine hK _ _ _ ?_; clear hK K
   refine awp_ret ?_
   try simp only [go_sem, seval]
   rw [← hbx, List.take_of_length_le (by simp), List.map_append, List.length_append]
   exact ⟨rfl, rfl⟩
theorem o_wire_Bytes (b : List UInt8) (hb : b.length ≤ 1099511627776) (H : Heap) (n : Nat) : Ret Tryz.prog 147 [bys b] H n (.osl n ((uintB b.length).length + 1) 0 (bytesB b).length) (H.put n (some (.arr ((uintB b.length).length + 1) 1 ((bytesB b).map byteAV)))) (n + 1) := by
  have hlen := uintB_len10 (v := b.length) (by omega)
  have hu : u64 (b.length : Int) = b.length := u64_nat _ (by omega)
  refine acalls_of_awp Tryz.func147 rfl Tryz.ntmps147 (congrArg Array.toList Tryz.results147) (by simp) ?_
  simp only [go_sem]
  refine awp_reg zs [0] fun K hK => ?_
  try simp only [go_sem, seval]
  repeat (first | (refine And.intro ?_ ?_; · first | exact ⟨by omega, trivial, by omega, by omega⟩ | exact ⟨by omega, .inr trivial, by omega, by omega⟩) | refine peel ?_)
  refine hK _ _ _ ?_; clear hK K
  refine awp_reg zs [2] fun K hK => ?_
  try simp only [go_sem, seval, List.length_map, u64_wrap, hu]
  repeat (first | (refine And.intro ?_ ?_; · first | exact ⟨by omega, trivial, by omega, by omega⟩ | exact ⟨by omega, .inr trivial, by omega, by omega⟩) | refine peel ?_)
  refine callK_use Tryz.func146 rfl rfl rfl ((o_wire_Uint b.length (by omega) _ _)) ?_
  try simp only [go_sem, seval, List.length_map]
  repeat (first | (refine And.intro ?_ ?_; · first | exact ⟨by omega, trivial, by omega, by omega⟩ | exact ⟨by omega, .inr trivial, by omega, by omega⟩) | refine peel ?_)
  refine hK _ _ _ ?_; clear hK K
  refine awp_ret ?_
  try simp only [go_sem, seval]
  refine ⟨by simp [bytesB], ?_⟩
  funext k; simp only [Heap.put_get]
  by_cases hk : k = n
  · simp [hk, bytesB, List.take_of_length_le]
  · simp [hk]
theorem c_order_writer_byte {H : Heap} {n kw kb M : Nat} {bs : List UInt8} (h : WSt H n kw kb M bs) (x : Int) (hM : M + 1 ≤ 70368744177664) : ACalls Tryz.prog 113 [.loc kw 0 0 0 [], .int .i64 x] H n (WK H n kw kb (M + 1) (bs ++ [byteI x])) := by
  obtain ⟨⟨ver, e1, e2⟩, e3, e4, e5, e6⟩ := h
  have e7 : (kw = kb) = False := by simp [e3]
  refine acalls_of_awp Tryz.func113 rfl Tryz.ntmps113 (congrArg Array.toList Tryz.results113) (by simp) ?_
  simp only [go_sem]
  refine awp_reg1 zs [] fun K hK => ?_
  try simp only [go_sem, seval, e1, e2, e7, byteI_wrap, List.length_map]
  repeat (first | (refine And.intro ?_ ?_; · first | exact ⟨rfl, by simp [byteAV, AV.sz, AV.memOK]⟩ | exact ⟨by omega, .inr trivial, by omega, by omega⟩) | refine peel ?_)
  refine hK _ _ _ ?_; clear hK K
  try simp only [go_sem, seval]
  refine ⟨rfl, Nat.le_refl _, ⟨⟨ver + 1, ?_, ?_⟩, e3, e4, e5, by simp; omega⟩, fun k hk h1 h2 => ?_⟩
  · simp [Heap.put]
  · simp [Heap.put, Ne.symm e3, List.take_of_length_le]; rfl
  · simp [Heap.put, h1, h2]
theorem c_order_writer_uint {H : Heap} {n kw kb M : Nat} {bs : List UInt8} (h : WSt H n kw kb M bs) (x : Int) (hM : M + 10 ≤ 70368744177664) : ACalls Tryz.prog 114 [.loc kw 0 0 0 [], .int .i64 x] H n (WK H n kw kb (M + 10) (bs ++ uintB (u64 x))) := by
  obtain ⟨⟨ver, e1, e2⟩, e3, e4, e5, e6⟩ := h
  have e7 : (kw = kb) = False := by simp [e3]
  have e8 : (kw = n) = False := by simp; omega
  have e9 : (kb = n) = False := by simp; omega
  have e10 : List.take (uintB (u64 x)).length (List.map byteAV (uintB (u64 x))) = List.map byteAV (uintB (u64 x)) := List.take_of_length_le (by simp)
  have hlen := uintB_len10 (u64_lt x)
  refine acalls_of_awp Tryz.func114 rfl Tryz.ntmps114 (congrArg Array.toList Tryz.results114) (by simp) ?_
  simp only [go_sem]
  refine awp_drp1 rfl zs [] [.m, .m, .q, .q, .q, .m, .q, .w [2, 3, 4], .w [], .q, .q, .w []] [0, 1, 2, 3, 4, 5, 6, 7, 8, 9, 10, 11] [0, 1, 2, 3, 4, 5, 6, 7, 8, 9, 10, 11] (by kernel_rfl) (fun _ _ _ _ _ h => h) fun K hK => ?_
  try simp only [go_sem, seval, e1, u64_wrap]
  repeat (first | (refine And.intro ?_ ?_; · first | exact ⟨rfl, by simp [byteAV, AV.sz, AV.memOK]⟩ | exact ⟨by omega, .inr trivial, by omega, by omega⟩ | exact ⟨Nat.le_refl _, Nat.le_refl _, .inr trivial, by omega, by omega⟩) | refine peel ?_)
  refine callK_use Tryz.func146 rfl rfl rfl ((o_wire_Uint (u64 x) (u64_lt x) _ _)) ?_
  try simp only [go_sem, seval, e1, e2, e7, e8, e9, e10, List.length_map]
  repeat (first | (refine And.intro ?_ ?_; · first | exact ⟨rfl, by simp [byteAV, AV.sz, AV.memOK]⟩ | exact ⟨by omega, .inr trivial, by omega, by omega⟩ | exact ⟨Nat.le_refl _, Nat.le_refl _, .inr trivial, by omega, by omega⟩) | refine peel ?_)
  refine hK _ _ _ ?_; clear hK K
  try simp only [go_sem, seval]
  refine ⟨rfl, by omega, ⟨⟨ver + 1, ?_, ?_⟩, e3, by omega, by omega, by simp; omega⟩, fun k hk h1 h2 => ?_⟩
  · simp [Heap.put]
  · simp [Heap.put, Ne.symm e3, List.take_of_length_le]
  · simp [Heap.put, h1, h2]; intro h3; omega
theorem c_order_writer_bytes {H : Heap} {n kw kb M : Nat} {bs : List UInt8} (h : WSt H n kw kb M bs) (b : List UInt8) (hb : b.length ≤ 1099511627776) (hM : M + 10 + b.length ≤ 70368744177664) : ACalls Tryz.prog 115 [.loc kw 0 0 0 [], bys b] H n (WK H n kw kb (M + 10 + b.length) (bs ++ bytesB b)) := by
  obtain ⟨⟨ver, e1, e2⟩, e3, e4, e5, e6⟩ := h
  have e7 : (kw = kb) = False := by simp [e3]
  have e8 : (kw = n) = False := by simp; omega
  have e9 : (kb = n) = False := by simp; omega
  have e10 : List.take (bytesB b).length (List.map byteAV (bytesB b)) = List.map byteAV (bytesB b) := List.take_of_length_le (by simp)
  have hlen := uintB_len10 (v := b.length) (by omega)
  have hbl : (bytesB b).length = (uintB b.length).length + b.length := by simp [bytesB]
  refine acalls_of_awp Tryz.func115 rfl Tryz.ntmps115 (congrArg Array.toList Tryz.results115) (by simp) ?_
  simp only [go_sem]
  refine awp_drp1 rfl zs [] [.m, .m, .q, .q, .q, .m, .w [2, 3, 4], .w [], .q, .q, .w []] [0, 1, 2, 3, 4, 5, 6, 7, 8, 9, 10] [0, 1, 2, 3, 4, 5, 6, 7, 8, 9, 10] (by kernel_rfl) (fun _ _ _ _ _ h => h) fun K hK => ?_
  try simp only [go_sem, seval, e1]
  repeat (first | (refine And.intro ?_ ?_; · first | exact ⟨rfl, by simp [byteAV, AV.sz, AV.memOK]⟩ | exact ⟨by omega, .inr trivial, by omega, by omega⟩ | exact ⟨Nat.le_refl _, Nat.le_refl _, .inr trivial, by omega, by omega⟩) | refine peel ?_)
  refine callK_use Tryz.func147 rfl rfl rfl ((o_wire_Bytes b hb _ _)) ?_
  try simp only [go_sem, seval, e1, e2, e7, e8, e9, e10, List.length_map]
  repeat (first | (refine And.intro ?_ ?_; · first | exact ⟨rfl, by simp [byteAV, AV.sz, AV.memOK]⟩ | exact ⟨by omega, .inr trivial, by omega, by omega⟩ | exact ⟨Nat.le_refl _, Nat.le_refl _, .inr trivial, by omega, by omega⟩) | refine peel ?_)
  refine hK _ _ _ ?_; clear hK K
  try simp only [go_sem, seval]
  refine ⟨rfl, by omega, ⟨⟨ver + 1, ?_, ?_⟩, e3, by omega, by omega, by simp; omega⟩, fun k hk h1 h2 => ?_⟩
  · simp [Heap.put]
  · simp [Heap.put, Ne.symm e3, List.take_of_length_le]
  · simp [Heap.put, h1, h2]; intro h3; omega
theorem c_order_writer_flag {H : Heap} {n kw kb M : Nat} {bs : List UInt8} (h : WSt H n kw kb M bs) (b : Bool) (hM : M + 1 ≤ 70368744177664) : ACalls Tryz.prog 117 [.loc kw 0 0 0 [], .bool b] H n (WK H n kw kb (M + 1) (bs ++ flagB b)) := by
  refine acalls_of_awp Tryz.func117 rfl Tryz.ntmps117 (congrArg Array.toList Tryz.results117) (by simp) ?_
  simp only [go_sem]
  refine awp_rq zs [0, 4] ?_
  refine awp_cnd (fun hb => ?_) (fun hb => ?_)
  ·skip
   have hb2 : b = true := hb
   refine awp_reg1 zs [] fun K hK => ?_
   try simp only [go_sem, seval]
   refine callK_useK (args' := [.loc kw 0 0 0 [], .int .i64 1]) Tryz.func113 rfl rfl rfl (c_order_writer_byte h 1 hM) ?_ ?_
   rotate_left
   · intro p H' n' h; cases h.1
   rintro rr G m hW1
   cases hW1.1
   refine hK _ _ _ ?_; clear hK K
   try simp only [go_sem, seval]
   subst hb2; exact hW1
  ·skip
   have hb2 : b = false := hb
   refine awp_reg1 zs [] fun K hK => ?_
   try simp only [go_sem, seval]
   refine callK_useK (args' := [.loc kw 0 0 0 [], .int .i64 0]) Tryz.func113 rfl rfl rfl (c_order_writer_byte h 0 hM) ?_ ?_
   rotate_left
   · intro p H' n' h; cases h.1
   rintro rr G m hW1
   cases hW1.1
   refine hK _ _ _ ?_; clear hK K
   try simp only [go_sem, seval]
   subst hb2; exact hW1
theorem c_order_writer_eight {H : Heap} {n kw kb M : Nat} {bs : List UInt8} (h : WSt H n kw kb M bs) (x : Int) (hM : M + 8 ≤ 70368744177664) : ACalls Tryz.prog 116 [.loc kw 0 0 0 [], .int .i64 x] H n (WK H n kw kb (M + 8) (bs ++ eightB x)) := by
  refine acalls_of_awp Tryz.func116 rfl Tryz.ntmps116 (congrArg Array.toList Tryz.results116) (by simp) ?_
  simp only [go_sem]
  refine awp_rq zs [0, 1, 4] ?_
  refine awp_block ?_
  refine awp_loop (fun T' H' n' => ∃ (j : Nat), j ≤ 8 ∧ T' = tl [(0, .loc kw 0 0 0 []), (1, .int .i64 x), (4, .int .i64 (56 - 8 * (j : Int)))] ∧ WK H n kw kb (M + j) (bs ++ (eightB x).take j) (.val (.tup [])) H' n') (fun T' _ _ => iv8 (T' 4)) ?_ ?_
  ·skip
   exact ⟨0, by omega, rfl, rfl, Nat.le_refl _, by simpa using h, fun _ _ _ _ => rfl⟩
  intro T1 H1 n1
  rintro ⟨j, hj, rfl, hW1⟩
  refine awp_seq_k fun K1 hK1 => ?_
  refine awp_rq zs [0, 1, 4, 6] ?_
  refine awp_cnd (fun hb => ?_) (fun hb => ?_)
  ·skip
   have hj8 : j < 8 := by have := of_decide_eq_true hb; omega
   have e1 : (x.fdiv (2 ^ (min (56 - 8 * (j : Int)).toNat 64))) = x / 2 ^ (56 - 8 * j) := by rw [fdiv_pow, show min (56 - 8 * (j : Int)).toNat 64 = 56 - 8 * j by omega]
   have e2 : IntKind.i64.wrap (56 - 8 * (j : Int) - 8) = 56 - 8 * ((j + 1 : Nat) : Int) := by rw [w64 (by omega) (by omega)]; omega
   refine awp_skip ?_
   try simp only [go_sem, seval]
   refine hK1 _ _ _ ?_
   first | clear hK1 K1 | skip
   refine awp_seq_k fun K2 hK2 => ?_
   refine awp_block ?_
   refine awp_reg1 zs [0, 1, 4] fun K hK => ?_
   try simp only [go_sem, seval, e1]
   repeat refine peel ?_
   refine callK_useK (args' := [.loc kw 0 0 0 [], .int .i64 (x / 2 ^ (56 - 8 * j))]) Tryz.func113 rfl rfl rfl (c_order_writer_byte hW1.2.2.1 (x / 2 ^ (56 - 8 * j)) (by omega)) ?_ ?_
   rotate_left
   · intro p H' n' h; cases h.1
   rintro rr G m hW2
   cases hW2.1
   have hW3 := hW2.up hW1.2.1 hW1.2.2.2
   refine hK _ _ _ ?_; clear hK K
   try simp only [go_sem, seval]
   refine hK2 _ _ _ ?_
   first | clear hK2 K2 | skip
   refine awp_reg1 zs [0, 1, 4] fun K hK => ?_
   try simp only [go_sem, seval, e2]
   refine hK _ _ _ ?_; clear hK K
   try simp only [go_sem, seval]
   refine ⟨⟨j + 1, by omega, rfl, by rw [← eight_take x hj8, ← List.append_assoc]; exact hW3⟩, ?_⟩
   show (56 - 8 * ((j + 1 : Nat) : Int) + 8).toNat < (56 - 8 * (j : Int) + 8).toNat
   omega
  ·skip
   have hj8 : j = 8 := by have := of_decide_eq_false hb; omega
   refine awp_exit ?_
   try simp only [go_sem, seval]
   subst hj8; exact hW1
end Go.Proofs.YtifnhpmeoogedaaGreatDoor
namespace Go.Proofs.YtifnhpmeoogedaaGreatDoor
open Go Go.Sx Go.Rt Go.Proofs
def hdrB (c : CmdE) : List UInt8 := byteI c.kind :: (if kClient c.kind || kFree c.kind then uintB (u64 c.client) ++ uintB (u64 c.serial) else [])
def mutB (c : CmdE) : List UInt8 := bytesB c.row ++ uintB c.conds.length ++ c.conds.flatMap condB ++ uintB c.ops.length ++ c.ops.flatMap opB
theorem cmdB_eq {c : CmdE} (h1 : 1 ≤ c.kind) (h7 : c.kind ≤ 7) : cmdB c = hdrB c ++ (if kOps c.kind then mutB c else []) ++ (if 0 ≤ kLeast c.kind then uintB (u64 c.n) else []) ++ (if kQuery c.kind then qryB c.q else []) := by
  have hk : c.kind = 1 ∨ c.kind = 2 ∨ c.kind = 3 ∨ c.kind = 4 ∨ c.kind = 5 ∨ c.kind = 6 ∨ c.kind = 7 := by omega
  unfold cmdB hdrB mutB
  rcases hk with h | h | h | h | h | h | h <;> simp [h, kClient, kFree, kOps, kLeast, kQuery]
set_option maxRecDepth 100000 in
set_option maxHeartbeats 3200000 in
theorem o_order_written (c : CmdE) (hc : c.fits) (h1 : 1 ≤ c.kind) (h7 : c.kind ≤ 7) (H : Heap) (n : Nat) (hG : GOK 0 2 H n) :
    ACalls Tryz.prog 55 [cmdAV c] H n fun res H' n' => ∃ ver, res = .val (.osl (n + 2) ver 0 (cmdB c).length) ∧ H' (n + 2) = some (.arr ver 1 ((cmdB c).map byteAV)) ∧ n + 3 ≤ n' ∧ ∀ k, k < n → H' k = H k := by
  have r1 : (0 : Nat) = 0 := rfl
  have r4 := r1
  have r6 := r1
  have rG := r1
  have hkl : kindsL.length = 8 := rfl
  have hkn : nth kindsL c.kind.toNat = kindAV c.kind := kindsL_nth (by omega) (by omega)
  have hsz : (cmdAV c).sz = 17 := cmdAV_sz c
  have hszq : (qryAV c.q).sz = 10 := qryAV_sz c.q
  have hagq : (qryAV c.q).isAgg = true := rfl
  have huc : u64 (c.conds.length : Int) = c.conds.length := u64_nat _ (by have := hc.conds; omega)
  have huo : u64 (c.ops.length : Int) = c.ops.length := u64_nat _ (by have := hc.ops; omega)
  have huf : u64 (c.q.fams.length : Int) = c.q.fams.length := u64_nat _ (by have := hc.fams; omega)
  have hmoq : (qryAV c.q).memOK = true := rfl
  refine acalls_of_awp Tryz.func55 rfl Tryz.ntmps55 (congrArg Array.toList Tryz.results55) (by simp) ?_
  simp only [go_sem]
  refine awp_reg zs [1] fun K hK => ?_
  try simp only [go_sem, seval, hszq, cmdAV, AV.memOK.eq_5]
  refine hK _ _ _ ?_; clear hK K
  refine awp_reg zs [1, 3] fun K hK => ?_
  try simp only [go_sem, seval, AV.memOK.eq_5]
  refine hK _ _ _ ?_; clear hK K
  refine awp_adopt_obj (n + 1) 1 (els' := [.agg [.osl (n + 2) 0 0 0]]) (Heap.put_same _ _ _) ⟨Adp.agg ⟨Adp.nilsl _, trivial⟩, trivial⟩ ?_
  refine awp_gen (fun H' n' => WS H n [(n, .arr 0 17 [cmdAV c])] (n + 1) (n + 2) (0) ([]) H' n') ⟨⟨⟨0, by simp [Heap.put], by simp [Heap.put]⟩, by omega, by omega, by omega, by simp⟩, fun p hp => by rw [List.mem_singleton.1 hp]; exact ⟨by simp [Heap.put, cmdAV, bys], by simp, by simp, by show n < n + 2 + 1; omega⟩, fun k hk => by simp only [Heap.put_get]; repeat rw [if_neg (by omega)], by omega, by omega⟩ fun H1 n1 hS => ?_
  have r1 := hS.get n (.arr 0 17 [cmdAV c]) (by simp)
  refine awp_reg zs [1, 3] fun K hK => ?_
  try simp only [go_sem, seval, r1, cmdAV]
  refine callK_useK (args' := [.loc (n + 1) 0 0 0 [], .int .i64 (c.kind)]) Tryz.func113 rfl rfl rfl (c_order_writer_byte hS.w (c.kind) (by omega)) ?_ ?_
  rotate_left
  · intro p H' n' h; cases h.1
  rintro rr G m hW9
  cases hW9.1
  have hS := hS.call hW9
  have r1 := hS.get (n) (.arr 0 17 [cmdAV c]) (by simp)
  clear hW9
  refine hK _ _ _ ?_; clear hK K
  have rG := (hS.low 0 hG.gek).trans hG.kinds
  refine awp_reg zs [1, 3, 4] fun K hK => ?_
  try simp only [go_sem, seval, r1, rG, hkl, hkn, cmdAV, kindAV, AV.memOK.eq_5]
  repeat (first | (refine And.intro ?_ ?_; · first | exact ⟨by omega, by omega, trivial⟩ | exact ⟨by omega, by omega⟩) | refine peel ?_)
  refine hK _ _ _ ?_; clear hK K
  refine awp_seq_jl [1, 3, 4] (fun T' H' n' => ∃ kt, T' = tl [(1, .loc n 0 0 0 []), (3, .loc (n + 1) 0 0 0 []), (4, .loc kt 0 0 0 [])] ∧ n + 3 ≤ kt ∧ WS H n [(kt, .arr 0 5 [kindAV c.kind]), (n, .arr 0 17 [cmdAV c])] (n + 1) (n + 2) (1000) (hdrB c) H' n') ?_ ?_
  ·skip
   have hk3 : n + 3 ≤ m := by have := hS.w.lb; omega
   refine awp_gen (fun H' n' => WS H n [(m, .arr 0 5 [kindAV c.kind]), (n, .arr 0 17 [cmdAV c])] (n + 1) (n + 2) (1) ([byteI c.kind]) H' n') ((hS.on (fun k hk => by simp only [Heap.put_get]; repeat rw [if_neg (by omega)]) (by omega)).add (by simp [Heap.put, kindAV]) (by have := hS.w.lw; omega) (by have := hS.w.lb; omega) (by omega)) fun H1 n1 hS => ?_
   generalize m = kt at *
   have r1 := hS.get (n) (.arr 0 17 [cmdAV c]) (by simp)
   have r4 := hS.get (kt) (.arr 0 5 [kindAV c.kind]) (by simp)
   refine awp_reg zs [1, 3, 4, 27] fun K hK => ?_
   try simp only [go_sem, seval, r4, cmdAV, kindAV]
   repeat refine peel ?_
   refine hK _ _ _ ?_; clear hK K
   refine awp_cnd (fun hb => ?_) (fun hb => ?_)
   ·skip
    have hb4 : (kClient c.kind || kFree c.kind) = true := by cases h : kClient c.kind <;> simp_all
    refine awp_reg zs [1, 3, 4] fun K hK => ?_
    try simp only [go_sem, seval, r1, cmdAV, kindAV]
    refine callK_useK (args' := [.loc (n + 1) 0 0 0 [], .int .i64 (c.client)]) Tryz.func114 rfl rfl rfl (c_order_writer_uint hS.w (c.client) (by omega)) ?_ ?_
    rotate_left
    · intro p H' n' h; cases h.1
    rintro rr G m hW9
    cases hW9.1
    have hS := hS.call hW9
    have r1 := hS.get (n) (.arr 0 17 [cmdAV c]) (by simp)
    have r4 := hS.get (kt) (.arr 0 5 [kindAV c.kind]) (by simp)
    clear hW9
    refine hK _ _ _ ?_; clear hK K
    refine awp_reg1 zs [1, 3, 4] fun K hK => ?_
    try simp only [go_sem, seval, r1, cmdAV, kindAV]
    refine callK_useK (args' := [.loc (n + 1) 0 0 0 [], .int .i64 (c.serial)]) Tryz.func114 rfl rfl rfl (c_order_writer_uint hS.w (c.serial) (by omega)) ?_ ?_
    rotate_left
    · intro p H' n' h; cases h.1
    rintro rr G m hW9
    cases hW9.1
    have hS := hS.call hW9
    have r1 := hS.get (n) (.arr 0 17 [cmdAV c]) (by simp)
    have r4 := hS.get (kt) (.arr 0 5 [kindAV c.kind]) (by simp)
    clear hW9
    refine hK _ _ _ ?_; clear hK K
    try simp only [go_sem, seval, cmdAV, kindAV]
    exact ⟨kt, rfl, hk3, (hS.up (by omega)).eq (by simp [hdrB, hb4])⟩
   ·skip
    have hb4 : (kClient c.kind || kFree c.kind) = false := by cases h : kClient c.kind <;> simp_all
    refine awp_skip ?_
    try simp only [go_sem, seval, cmdAV, kindAV]
    exact ⟨kt, rfl, hk3, (hS.up (by omega)).eq (by simp [hdrB, hb4])⟩
  rintro T1 H1 n1 ⟨kt, rfl, hk3, hS⟩
  have r1 := hS.get (n) (.arr 0 17 [cmdAV c]) (by simp)
  have r4 := hS.get (kt) (.arr 0 5 [kindAV c.kind]) (by simp)
  refine awp_seq_jl [1, 3, 4] (fun T' H' n' => ∃ kt, T' = tl [(1, .loc n 0 0 0 []), (3, .loc (n + 1) 0 0 0 []), (4, .loc kt 0 0 0 [])] ∧ n + 3 ≤ kt ∧ WS H n [(kt, .arr 0 5 [kindAV c.kind]), (n, .arr 0 17 [cmdAV c])] (n + 1) (n + 2) (7000000000000) (hdrB c ++ (if kOps c.kind then mutB c else [])) H' n') ?_ ?_
  ·skip
   refine awp_reg zs [1, 3, 4, 37] fun K hK => ?_
   try simp only [go_sem, seval, r4, cmdAV, kindAV]
   refine hK _ _ _ ?_; clear hK K
   refine awp_cnd (fun hb => ?_) (fun hb => ?_)
   ·skip
    have hb5 : kOps c.kind = true := hb
    refine awp_reg zs [1, 3, 4] fun K hK => ?_
    try simp only [go_sem, seval, r1, cmdAV, kindAV]
    refine callK_useK (args' := [.loc (n + 1) 0 0 0 [], bys (c.row)]) Tryz.func115 rfl rfl rfl (c_order_writer_bytes hS.w (c.row) (by have := hc.row; omega) (by have := hc.row; omega)) ?_ ?_
    rotate_left
    · intro p H' n' h; cases h.1
    rintro rr G m hW9
    cases hW9.1
    have hS := hS.call hW9
    have r1 := hS.get (n) (.arr 0 17 [cmdAV c]) (by simp)
    have r4 := hS.get (kt) (.arr 0 5 [kindAV c.kind]) (by simp)
    clear hW9
    refine hK _ _ _ ?_; clear hK K
    refine awp_reg zs [1, 3, 4] fun K hK => ?_
    try simp only [go_sem, seval, r1, cmdAV, kindAV, List.length_map]
    refine callK_useK (args' := [.loc (n + 1) 0 0 0 [], .int .i64 (c.conds.length)]) Tryz.func114 rfl rfl rfl (c_order_writer_uint hS.w (c.conds.length) (by have := hc.row; omega)) ?_ ?_
    rotate_left
    · intro p H' n' h; cases h.1
    rintro rr G m hW9
    cases hW9.1
    have hS := hS.call hW9
    have r1 := hS.get (n) (.arr 0 17 [cmdAV c]) (by simp)
    have r4 := hS.get (kt) (.arr 0 5 [kindAV c.kind]) (by simp)
    clear hW9
    refine hK _ _ _ ?_; clear hK K
    refine awp_seq_k fun K1 hK1 => ?_
    refine awp_reg zs [1, 3, 4, 48, 49, 50] fun K hK => ?_
    try simp only [go_sem, seval, r1, cmdAV, kindAV, List.length_map]
    refine hK _ _ _ ?_; clear hK K
    refine awp_block ?_
    refine awp_loop (fun T' H' n' => ∃ i : Nat, i ≤ c.conds.length ∧ T' = tl [(1, .loc n 0 0 0 []), (3, .loc (n + 1) 0 0 0 []), (4, .loc kt 0 0 0 []), (48, .sl 4 (c.conds.map condAV)), (49, .int .i64 c.conds.length), (50, .int .i64 i)] ∧ WS H n [(kt, .arr 0 5 [kindAV c.kind]), (n, .arr 0 17 [cmdAV c])] (n + 1) (n + 2) (1100000 + 2100000 * i) (hdrB c ++ bytesB c.row ++ uintB c.conds.length ++ (c.conds.take i).flatMap condB) H' n') (fun T' _ _ => c.conds.length - iv (T' 50)) ?_ ?_
    ·skip
     exact ⟨0, by omega, rfl, (hS.up (by have := hc.row; have := hc.conds; omega)).eq (by simp [huc, huo])⟩
    intro T1 H1 n1
    rintro ⟨i, hi, rfl, hS⟩
    refine awp_reg zs [1, 3, 4, 48, 49, 50, 51] fun K hK => ?_
    try simp only [go_sem, seval, cmdAV, kindAV]
    refine hK _ _ _ ?_; clear hK K
    refine awp_seq_k fun K2 hK2 => ?_
    refine awp_cnd (fun hb => ?_) (fun hb => ?_)
    ·skip
     have hlt : i < c.conds.length := by simpa using hb
     have hfl := flatMap_take condB c.conds hlt
     have hmem := getD_mem c.conds hlt
     have hnth : nth (c.conds.map condAV) i = condAV (c.conds.getD i default) := nth_map condAV c.conds i hlt
     generalize c.conds.getD i default = x at *
     have hx := hc.cond x hmem
     have hil := hc.conds
     have hszx : (condAV x).sz = 4 := condAV_sz x
     have hagx : (condAV x).isAgg = true := rfl
     have hmox : (condAV x).memOK = true := rfl
     have r1 := hS.get (n) (.arr 0 17 [cmdAV c]) (by simp)
     have r4 := hS.get (kt) (.arr 0 5 [kindAV c.kind]) (by simp)
     refine awp_skip ?_
     try simp only [go_sem, seval, cmdAV, kindAV]
     refine hK2 _ _ _ ?_
     first | clear hK2 K2 | skip
     refine awp_seq_k fun K3 hK3 => ?_
     refine awp_block ?_
     refine awp_reg zs [1, 3, 4, 6, 48, 49, 50] fun K hK => ?_
     try simp only [go_sem, seval, cmdAV, kindAV, List.length_map, Int.toNat_natCast, hnth, hszx, hagx, hmox]
     repeat refine peel ?_
     refine hK _ _ _ ?_; clear hK K
     refine awp_gen (fun H' n' => WS H n [(n1, .arr 0 4 [condAV x]), (kt, .arr 0 5 [kindAV c.kind]), (n, .arr 0 17 [cmdAV c])] (n + 1) (n + 2) (1100000 + 2100000 * i) (hdrB c ++ bytesB c.row ++ uintB c.conds.length ++ (c.conds.take i).flatMap condB) H' n') ((hS.on (fun k hk => by simp only [Heap.put_get]; repeat rw [if_neg (by omega)]) (by omega)).add (by simp [Heap.put]) (by have := hS.w.lw; omega) (by have := hS.w.lb; omega) (by omega)) fun H1 n1' hS => ?_
     generalize n1 = kx at *
     have r1 := hS.get (n) (.arr 0 17 [cmdAV c]) (by simp)
     have r4 := hS.get (kt) (.arr 0 5 [kindAV c.kind]) (by simp)
     have r6 := hS.get (kx) (.arr 0 4 [condAV x]) (by simp)
     refine awp_reg zs [1, 3, 4, 6, 48, 49, 50] fun K hK => ?_
     try simp only [go_sem, seval, r6, cmdAV, kindAV, condAV]
     refine callK_useK (args' := [.loc (n + 1) 0 0 0 [], .int .i64 (x.kind)]) Tryz.func113 rfl rfl rfl (c_order_writer_byte hS.w (x.kind) (by omega)) ?_ ?_
     rotate_left
     · intro p H' n' h; cases h.1
     rintro rr G m hW9
     cases hW9.1
     have hS := hS.call hW9
     have r1 := hS.get (n) (.arr 0 17 [cmdAV c]) (by simp)
     have r4 := hS.get (kt) (.arr 0 5 [kindAV c.kind]) (by simp)
     have r6 := hS.get (kx) (.arr 0 4 [condAV x]) (by simp)
     clear hW9
     refine hK _ _ _ ?_; clear hK K
     refine awp_reg zs [1, 3, 4, 6, 48, 49, 50] fun K hK => ?_
     try simp only [go_sem, seval, r6, cmdAV, kindAV, condAV]
     refine callK_useK (args' := [.loc (n + 1) 0 0 0 [], .int .i64 (x.fam)]) Tryz.func113 rfl rfl rfl (c_order_writer_byte hS.w (x.fam) (by omega)) ?_ ?_
     rotate_left
     · intro p H' n' h; cases h.1
     rintro rr G m hW9
     cases hW9.1
     have hS := hS.call hW9
     have r1 := hS.get (n) (.arr 0 17 [cmdAV c]) (by simp)
     have r4 := hS.get (kt) (.arr 0 5 [kindAV c.kind]) (by simp)
     have r6 := hS.get (kx) (.arr 0 4 [condAV x]) (by simp)
     clear hW9
     refine hK _ _ _ ?_; clear hK K
     refine awp_reg zs [1, 3, 4, 6, 48, 49, 50] fun K hK => ?_
     try simp only [go_sem, seval, r6, cmdAV, kindAV, condAV]
     refine callK_useK (args' := [.loc (n + 1) 0 0 0 [], bys (x.qual)]) Tryz.func115 rfl rfl rfl (c_order_writer_bytes hS.w (x.qual) (by omega) (by omega)) ?_ ?_
     rotate_left
     · intro p H' n' h; cases h.1
     rintro rr G m hW9
     cases hW9.1
     have hS := hS.call hW9
     have r1 := hS.get (n) (.arr 0 17 [cmdAV c]) (by simp)
     have r4 := hS.get (kt) (.arr 0 5 [kindAV c.kind]) (by simp)
     have r6 := hS.get (kx) (.arr 0 4 [condAV x]) (by simp)
     clear hW9
     refine hK _ _ _ ?_; clear hK K
     refine awp_reg1 zs [1, 3, 4, 48, 49, 50] fun K hK => ?_
     try simp only [go_sem, seval, r6, cmdAV, kindAV, condAV]
     refine callK_useK (args' := [.loc (n + 1) 0 0 0 [], bys (x.value)]) Tryz.func115 rfl rfl rfl (c_order_writer_bytes hS.w (x.value) (by omega) (by omega)) ?_ ?_
     rotate_left
     · intro p H' n' h; cases h.1
     rintro rr G m hW9
     cases hW9.1
     have hS := hS.call hW9
     have r1 := hS.get (n) (.arr 0 17 [cmdAV c]) (by simp)
     have r4 := hS.get (kt) (.arr 0 5 [kindAV c.kind]) (by simp)
     have r6 := hS.get (kx) (.arr 0 4 [condAV x]) (by simp)
     clear hW9
     refine hK _ _ _ ?_; clear hK K
     try simp only [go_sem, seval, cmdAV, kindAV]
     refine hK3 _ _ _ ?_
     first | clear hK3 K3 | skip
     refine awp_reg1 zs [1, 3, 4, 48, 49, 50] fun K hK => ?_
     try simp only [go_sem, seval, cmdAV, kindAV]
     refine hK _ _ _ ?_; clear hK K
     try simp only [go_sem, seval, cmdAV, kindAV]
     refine ⟨⟨i + 1, by omega, by rw [w1 (by omega)], (hS.drop.up (by omega)).eq (by rw [hfl]; simp [condB])⟩, by rw [w1 (by omega)]; simp; omega⟩
    ·skip
     have hge : i = c.conds.length := by simp at hb; omega
     have hS := hS.eq (by rw [flatMap_all condB c.conds (by omega)])
     have hil := hc.conds
     have r1 := hS.get (n) (.arr 0 17 [cmdAV c]) (by simp)
     have r4 := hS.get (kt) (.arr 0 5 [kindAV c.kind]) (by simp)
     refine awp_exit ?_
     try simp only [go_sem, seval, cmdAV, kindAV]
     refine hK1 _ _ _ ?_
     first | clear hK1 K1 | skip
     refine awp_reg zs [1, 3, 4] fun K hK => ?_
     try simp only [go_sem, seval, r1, cmdAV, kindAV, List.length_map]
     refine callK_useK (args' := [.loc (n + 1) 0 0 0 [], .int .i64 (c.ops.length)]) Tryz.func114 rfl rfl rfl (c_order_writer_uint hS.w (c.ops.length) (by omega)) ?_ ?_
     rotate_left
     · intro p H' n' h; cases h.1
     rintro rr G m hW9
     cases hW9.1
     have hS := hS.call hW9
     have r1 := hS.get (n) (.arr 0 17 [cmdAV c]) (by simp)
     have r4 := hS.get (kt) (.arr 0 5 [kindAV c.kind]) (by simp)
     clear hW9
     refine hK _ _ _ ?_; clear hK K
     refine awp_reg zs [1, 3, 4, 77, 78, 79] fun K hK => ?_
     try simp only [go_sem, seval, r1, cmdAV, kindAV, List.length_map]
     refine hK _ _ _ ?_; clear hK K
     refine awp_block ?_
     refine awp_loop (fun T' H' n' => ∃ i : Nat, i ≤ c.ops.length ∧ T' = tl [(1, .loc n 0 0 0 []), (3, .loc (n + 1) 0 0 0 []), (4, .loc kt 0 0 0 []), (77, .sl 6 (c.ops.map opAV)), (78, .int .i64 c.ops.length), (79, .int .i64 i)] ∧ WS H n [(kt, .arr 0 5 [kindAV c.kind]), (n, .arr 0 17 [cmdAV c])] (n + 1) (n + 2) (2300000000000 + 2100000 * i) (hdrB c ++ bytesB c.row ++ uintB c.conds.length ++ c.conds.flatMap condB ++ uintB c.ops.length ++ (c.ops.take i).flatMap opB) H' n') (fun T' _ _ => c.ops.length - iv (T' 79)) ?_ ?_
     ·skip
      exact ⟨0, by omega, rfl, (hS.up (by have := hc.row; have := hc.conds; omega)).eq (by simp [huc, huo])⟩
     intro T1 H1 n1
     rintro ⟨i, hi, rfl, hS⟩
     refine awp_reg zs [1, 3, 4, 77, 78, 79, 80] fun K hK => ?_
     try simp only [go_sem, seval, cmdAV, kindAV]
     refine hK _ _ _ ?_; clear hK K
     refine awp_seq_k fun K4 hK4 => ?_
     refine awp_cnd (fun hb => ?_) (fun hb => ?_)
     ·skip
      have hlt : i < c.ops.length := by simpa using hb
      have hfl := flatMap_take opB c.ops hlt
      have hmem := getD_mem c.ops hlt
      have hnth : nth (c.ops.map opAV) i = opAV (c.ops.getD i default) := nth_map opAV c.ops i hlt
      generalize c.ops.getD i default = x at *
      have hx := hc.op x hmem
      have hil := hc.ops
      have hszx : (opAV x).sz = 6 := opAV_sz x
      have hagx : (opAV x).isAgg = true := rfl
      have hmox : (opAV x).memOK = true := rfl
      have r1 := hS.get (n) (.arr 0 17 [cmdAV c]) (by simp)
      have r4 := hS.get (kt) (.arr 0 5 [kindAV c.kind]) (by simp)
      refine awp_skip ?_
      try simp only [go_sem, seval, cmdAV, kindAV]
      refine hK4 _ _ _ ?_
      first | clear hK4 K4 | skip
      refine awp_seq_k fun K5 hK5 => ?_
      refine awp_block ?_
      refine awp_reg zs [1, 3, 4, 8, 77, 78, 79] fun K hK => ?_
      try simp only [go_sem, seval, cmdAV, kindAV, List.length_map, Int.toNat_natCast, hnth, hszx, hagx, hmox]
      repeat refine peel ?_
      refine hK _ _ _ ?_; clear hK K
      refine awp_gen (fun H' n' => WS H n [(n1, .arr 0 6 [opAV x]), (kt, .arr 0 5 [kindAV c.kind]), (n, .arr 0 17 [cmdAV c])] (n + 1) (n + 2) (2300000000000 + 2100000 * i) (hdrB c ++ bytesB c.row ++ uintB c.conds.length ++ c.conds.flatMap condB ++ uintB c.ops.length ++ (c.ops.take i).flatMap opB) H' n') ((hS.on (fun k hk => by simp only [Heap.put_get]; repeat rw [if_neg (by omega)]) (by omega)).add (by simp [Heap.put]) (by have := hS.w.lw; omega) (by have := hS.w.lb; omega) (by omega)) fun H1 n1' hS => ?_
      generalize n1 = kx at *
      have r1 := hS.get (n) (.arr 0 17 [cmdAV c]) (by simp)
      have r4 := hS.get (kt) (.arr 0 5 [kindAV c.kind]) (by simp)
      have r6 := hS.get (kx) (.arr 0 6 [opAV x]) (by simp)
      refine awp_reg zs [1, 3, 4, 8, 77, 78, 79] fun K hK => ?_
      try simp only [go_sem, seval, r6, cmdAV, kindAV, opAV]
      refine callK_useK (args' := [.loc (n + 1) 0 0 0 [], .int .i64 (x.kind)]) Tryz.func113 rfl rfl rfl (c_order_writer_byte hS.w (x.kind) (by omega)) ?_ ?_
      rotate_left
      · intro p H' n' h; cases h.1
      rintro rr G m hW9
      cases hW9.1
      have hS := hS.call hW9
      have r1 := hS.get (n) (.arr 0 17 [cmdAV c]) (by simp)
      have r4 := hS.get (kt) (.arr 0 5 [kindAV c.kind]) (by simp)
      have r6 := hS.get (kx) (.arr 0 6 [opAV x]) (by simp)
      clear hW9
      refine hK _ _ _ ?_; clear hK K
      refine awp_reg zs [1, 3, 4, 8, 77, 78, 79] fun K hK => ?_
      try simp only [go_sem, seval, r6, cmdAV, kindAV, opAV]
      refine callK_useK (args' := [.loc (n + 1) 0 0 0 [], .int .i64 (x.fam)]) Tryz.func113 rfl rfl rfl (c_order_writer_byte hS.w (x.fam) (by omega)) ?_ ?_
      rotate_left
      · intro p H' n' h; cases h.1
      rintro rr G m hW9
      cases hW9.1
      have hS := hS.call hW9
      have r1 := hS.get (n) (.arr 0 17 [cmdAV c]) (by simp)
      have r4 := hS.get (kt) (.arr 0 5 [kindAV c.kind]) (by simp)
      have r6 := hS.get (kx) (.arr 0 6 [opAV x]) (by simp)
      clear hW9
      refine hK _ _ _ ?_; clear hK K
      refine awp_reg zs [1, 3, 4, 8, 77, 78, 79] fun K hK => ?_
      try simp only [go_sem, seval, r6, cmdAV, kindAV, opAV]
      refine callK_useK (args' := [.loc (n + 1) 0 0 0 [], bys (x.qual)]) Tryz.func115 rfl rfl rfl (c_order_writer_bytes hS.w (x.qual) (by omega) (by omega)) ?_ ?_
      rotate_left
      · intro p H' n' h; cases h.1
      rintro rr G m hW9
      cases hW9.1
      have hS := hS.call hW9
      have r1 := hS.get (n) (.arr 0 17 [cmdAV c]) (by simp)
      have r4 := hS.get (kt) (.arr 0 5 [kindAV c.kind]) (by simp)
      have r6 := hS.get (kx) (.arr 0 6 [opAV x]) (by simp)
      clear hW9
      refine hK _ _ _ ?_; clear hK K
      refine awp_reg zs [1, 3, 4, 8, 77, 78, 79] fun K hK => ?_
      try simp only [go_sem, seval, r6, cmdAV, kindAV, opAV]
      refine callK_useK (args' := [.loc (n + 1) 0 0 0 [], .int .i64 (x.ts)]) Tryz.func114 rfl rfl rfl (c_order_writer_uint hS.w (x.ts) (by omega)) ?_ ?_
      rotate_left
      · intro p H' n' h; cases h.1
      rintro rr G m hW9
      cases hW9.1
      have hS := hS.call hW9
      have r1 := hS.get (n) (.arr 0 17 [cmdAV c]) (by simp)
      have r4 := hS.get (kt) (.arr 0 5 [kindAV c.kind]) (by simp)
      have r6 := hS.get (kx) (.arr 0 6 [opAV x]) (by simp)
      clear hW9
      refine hK _ _ _ ?_; clear hK K
      refine awp_reg zs [1, 3, 4, 8, 77, 78, 79] fun K hK => ?_
      try simp only [go_sem, seval, r6, cmdAV, kindAV, opAV]
      refine callK_useK (args' := [.loc (n + 1) 0 0 0 [], bys (x.value)]) Tryz.func115 rfl rfl rfl (c_order_writer_bytes hS.w (x.value) (by omega) (by omega)) ?_ ?_
      rotate_left
      · intro p H' n' h; cases h.1
      rintro rr G m hW9
      cases hW9.1
      have hS := hS.call hW9
      have r1 := hS.get (n) (.arr 0 17 [cmdAV c]) (by simp)
      have r4 := hS.get (kt) (.arr 0 5 [kindAV c.kind]) (by simp)
      have r6 := hS.get (kx) (.arr 0 6 [opAV x]) (by simp)
      clear hW9
      refine hK _ _ _ ?_; clear hK K
      refine awp_reg1 zs [1, 3, 4, 77, 78, 79] fun K hK => ?_
      try simp only [go_sem, seval, r6, cmdAV, kindAV, opAV]
      refine callK_useK (args' := [.loc (n + 1) 0 0 0 [], .int .i64 (x.delta)]) Tryz.func116 rfl rfl rfl (c_order_writer_eight hS.w (x.delta) (by omega)) ?_ ?_
      rotate_left
      · intro p H' n' h; cases h.1
      rintro rr G m hW9
      cases hW9.1
      have hS := hS.call hW9
      have r1 := hS.get (n) (.arr 0 17 [cmdAV c]) (by simp)
      have r4 := hS.get (kt) (.arr 0 5 [kindAV c.kind]) (by simp)
      have r6 := hS.get (kx) (.arr 0 6 [opAV x]) (by simp)
      clear hW9
      refine hK _ _ _ ?_; clear hK K
      try simp only [go_sem, seval, cmdAV, kindAV]
      refine hK5 _ _ _ ?_
      first | clear hK5 K5 | skip
      refine awp_reg1 zs [1, 3, 4, 77, 78, 79] fun K hK => ?_
      try simp only [go_sem, seval, cmdAV, kindAV]
      refine hK _ _ _ ?_; clear hK K
      try simp only [go_sem, seval, cmdAV, kindAV]
      refine ⟨⟨i + 1, by omega, by rw [w1 (by omega)], (hS.drop.up (by omega)).eq (by rw [hfl]; simp [opB])⟩, by rw [w1 (by omega)]; simp; omega⟩
     ·skip
      have hge : i = c.ops.length := by simp at hb; omega
      have hS := hS.eq (by rw [flatMap_all opB c.ops (by omega)])
      have hil := hc.ops
      have r1 := hS.get (n) (.arr 0 17 [cmdAV c]) (by simp)
      have r4 := hS.get (kt) (.arr 0 5 [kindAV c.kind]) (by simp)
      refine awp_exit ?_
      try simp only [go_sem, seval, cmdAV, kindAV]
      first | exact ⟨kt, rfl, hk3, (hS.up (by omega)).eq (by simp [mutB, hb5])⟩ | exact ⟨kt, rfl, hk3, (hS.up (by have := hc.conds; have := hc.ops; omega)).eq (by rw [hb5, if_pos rfl]; simp only [mutB, List.append_assoc])⟩
   ·skip
    have hb5 : kOps c.kind = false := hb
    refine awp_skip ?_
    try simp only [go_sem, seval, cmdAV, kindAV]
    first | exact ⟨kt, rfl, hk3, (hS.up (by omega)).eq (by simp [mutB, hb5])⟩ | exact ⟨kt, rfl, hk3, (hS.up (by have := hc.conds; have := hc.ops; omega)).eq (by rw [hb5, if_pos rfl]; simp only [mutB, List.append_assoc])⟩
  rintro T1 H1 n1 ⟨kt, rfl, hk3, hS⟩
  have r1 := hS.get (n) (.arr 0 17 [cmdAV c]) (by simp)
  have r4 := hS.get (kt) (.arr 0 5 [kindAV c.kind]) (by simp)
  refine awp_seq_jl [1, 3, 4] (fun T' H' n' => ∃ kt, T' = tl [(1, .loc n 0 0 0 []), (3, .loc (n + 1) 0 0 0 []), (4, .loc kt 0 0 0 [])] ∧ n + 3 ≤ kt ∧ WS H n [(kt, .arr 0 5 [kindAV c.kind]), (n, .arr 0 17 [cmdAV c])] (n + 1) (n + 2) (7000000001000) (hdrB c ++ (if kOps c.kind then mutB c else []) ++ (if 0 ≤ kLeast c.kind then uintB (u64 c.n) else [])) H' n') ?_ ?_
  ·skip
   refine awp_reg zs [1, 3, 4, 110] fun K hK => ?_
   try simp only [go_sem, seval, r4, cmdAV, kindAV]
   refine hK _ _ _ ?_; clear hK K
   refine awp_cnd (fun hb => ?_) (fun hb => ?_)
   ·skip
    have hb6 : 0 ≤ kLeast c.kind := of_decide_eq_true hb
    refine awp_reg1 zs [1, 3, 4] fun K hK => ?_
    try simp only [go_sem, seval, r1, cmdAV, kindAV]
    refine callK_useK (args' := [.loc (n + 1) 0 0 0 [], .int .i64 (c.n)]) Tryz.func114 rfl rfl rfl (c_order_writer_uint hS.w (c.n) (by omega)) ?_ ?_
    rotate_left
    · intro p H' n' h; cases h.1
    rintro rr G m hW9
    cases hW9.1
    have hS := hS.call hW9
    have r1 := hS.get (n) (.arr 0 17 [cmdAV c]) (by simp)
    have r4 := hS.get (kt) (.arr 0 5 [kindAV c.kind]) (by simp)
    clear hW9
    refine hK _ _ _ ?_; clear hK K
    try simp only [go_sem, seval, cmdAV, kindAV]
    exact ⟨kt, rfl, hk3, (hS.up (by omega)).eq (by simp [hb6])⟩
   ·skip
    have hb6 : ¬ 0 ≤ kLeast c.kind := of_decide_eq_false hb
    refine awp_skip ?_
    try simp only [go_sem, seval, cmdAV, kindAV]
    exact ⟨kt, rfl, hk3, (hS.up (by omega)).eq (by simp [hb6])⟩
  rintro T1 H1 n1 ⟨kt, rfl, hk3, hS⟩
  have r1 := hS.get (n) (.arr 0 17 [cmdAV c]) (by simp)
  have r4 := hS.get (kt) (.arr 0 5 [kindAV c.kind]) (by simp)
  refine awp_seq_jl [3] (fun T' H' n' => ∃ kt, T' = tl [(3, .loc (n + 1) 0 0 0 [])] ∧ n + 3 ≤ kt ∧ WS H n [(kt, .arr 0 5 [kindAV c.kind]), (n, .arr 0 17 [cmdAV c])] (n + 1) (n + 2) (7000100000000) (cmdB c) H' n') ?_ ?_
  ·skip
   refine awp_reg zs [1, 3, 116] fun K hK => ?_
   try simp only [go_sem, seval, r4, cmdAV, kindAV]
   refine hK _ _ _ ?_; clear hK K
   refine awp_cnd (fun hb => ?_) (fun hb => ?_)
   ·skip
    have hb7 : kQuery c.kind = true := hb
    refine awp_reg zs [3, 9] fun K hK => ?_
    try simp only [go_sem, seval, r1, hszq, hagq, hmoq, cmdAV, kindAV]
    refine hK _ _ _ ?_; clear hK K
    refine awp_gen (fun H' n' => WS H n [(n1, .arr 0 10 [qryAV c.q]), (kt, .arr 0 5 [kindAV c.kind]), (n, .arr 0 17 [cmdAV c])] (n + 1) (n + 2) (7000000001000) (hdrB c ++ (if kOps c.kind then mutB c else []) ++ (if 0 ≤ kLeast c.kind then uintB (u64 c.n) else [])) H' n') ((hS.on (fun k hk => by simp only [Heap.put_get]; repeat rw [if_neg (by omega)]) (by omega)).add (by simp [Heap.put, qryAV]) (by have := hS.w.lw; omega) (by have := hS.w.lb; omega) (by omega)) fun H1 n1' hS => ?_
    generalize n1 = kq at *
    have r1 := hS.get (n) (.arr 0 17 [cmdAV c]) (by simp)
    have r4 := hS.get (kt) (.arr 0 5 [kindAV c.kind]) (by simp)
    have r6 := hS.get (kq) (.arr 0 10 [qryAV c.q]) (by simp)
    refine awp_reg zs [3, 9] fun K hK => ?_
    try simp only [go_sem, seval, r6, cmdAV, kindAV, qryAV, numsAV]
    refine callK_useK (args' := [.loc (n + 1) 0 0 0 [], bys (c.q.frm)]) Tryz.func115 rfl rfl rfl (c_order_writer_bytes hS.w (c.q.frm) (by have := hc.frm; omega) (by have := hc.frm; omega)) ?_ ?_
    rotate_left
    · intro p H' n' h; cases h.1
    rintro rr G m hW9
    cases hW9.1
    have hS := hS.call hW9
    have r1 := hS.get (n) (.arr 0 17 [cmdAV c]) (by simp)
    have r4 := hS.get (kt) (.arr 0 5 [kindAV c.kind]) (by simp)
    have r6 := hS.get (kq) (.arr 0 10 [qryAV c.q]) (by simp)
    clear hW9
    refine hK _ _ _ ?_; clear hK K
    refine awp_reg zs [3, 9] fun K hK => ?_
    try simp only [go_sem, seval, r6, cmdAV, kindAV, qryAV, numsAV]
    refine callK_useK (args' := [.loc (n + 1) 0 0 0 [], bys (c.q.to)]) Tryz.func115 rfl rfl rfl (c_order_writer_bytes hS.w (c.q.to) (by have := hc.to; omega) (by have := hc.frm; have := hc.to; omega)) ?_ ?_
    rotate_left
    · intro p H' n' h; cases h.1
    rintro rr G m hW9
    cases hW9.1
    have hS := hS.call hW9
    have r1 := hS.get (n) (.arr 0 17 [cmdAV c]) (by simp)
    have r4 := hS.get (kt) (.arr 0 5 [kindAV c.kind]) (by simp)
    have r6 := hS.get (kq) (.arr 0 10 [qryAV c.q]) (by simp)
    clear hW9
    refine hK _ _ _ ?_; clear hK K
    refine awp_reg zs [3, 9] fun K hK => ?_
    try simp only [go_sem, seval, r6, cmdAV, kindAV, List.length_map, qryAV, numsAV]
    refine callK_useK (args' := [.loc (n + 1) 0 0 0 [], .int .i64 (c.q.fams.length)]) Tryz.func114 rfl rfl rfl (c_order_writer_uint hS.w (c.q.fams.length) (by have := hc.frm; have := hc.to; omega)) ?_ ?_
    rotate_left
    · intro p H' n' h; cases h.1
    rintro rr G m hW9
    cases hW9.1
    have hS := hS.call hW9
    have r1 := hS.get (n) (.arr 0 17 [cmdAV c]) (by simp)
    have r4 := hS.get (kt) (.arr 0 5 [kindAV c.kind]) (by simp)
    have r6 := hS.get (kq) (.arr 0 10 [qryAV c.q]) (by simp)
    clear hW9
    refine hK _ _ _ ?_; clear hK K
    refine awp_seq_k fun K6 hK6 => ?_
    refine awp_reg zs [3, 9, 133, 134, 135] fun K hK => ?_
    try simp only [go_sem, seval, r6, cmdAV, kindAV, List.length_map, qryAV, numsAV]
    refine hK _ _ _ ?_; clear hK K
    refine awp_block ?_
    refine awp_loop (fun T' H' n' => ∃ i : Nat, i ≤ c.q.fams.length ∧ T' = tl [(3, .loc (n + 1) 0 0 0 []), (9, .loc kq 0 0 0 []), (133, .sl 1 (c.q.fams.map fun n => .int .i64 n)), (134, .int .i64 c.q.fams.length), (135, .int .i64 i)] ∧ WS H n [(kq, .arr 0 10 [qryAV c.q]), (kt, .arr 0 5 [kindAV c.kind]), (n, .arr 0 17 [cmdAV c])] (n + 1) (n + 2) (7000010000000 + 10 * i) (hdrB c ++ (if kOps c.kind then mutB c else []) ++ (if 0 ≤ kLeast c.kind then uintB (u64 c.n) else []) ++ bytesB c.q.frm ++ bytesB c.q.to ++ uintB c.q.fams.length ++ (c.q.fams.take i).flatMap fun f => uintB (u64 f)) H' n') (fun T' _ _ => c.q.fams.length - iv (T' 135)) ?_ ?_
    ·skip
     exact ⟨0, by omega, rfl, (hS.up (by have := hc.frm; have := hc.to; omega)).eq (by simp [huf])⟩
    intro T1 H1 n1
    rintro ⟨i, hi, rfl, hS⟩
    refine awp_reg zs [3, 9, 133, 134, 135, 136] fun K hK => ?_
    try simp only [go_sem, seval, cmdAV, kindAV, qryAV, numsAV]
    refine hK _ _ _ ?_; clear hK K
    refine awp_seq_k fun K7 hK7 => ?_
    refine awp_cnd (fun hb => ?_) (fun hb => ?_)
    ·skip
     have hlt : i < c.q.fams.length := by simpa using hb
     have hil := hc.fams
     have hfl := flatMap_take (fun f => uintB (u64 f)) c.q.fams hlt
     have hnth : nth (c.q.fams.map fun n => AV.int .i64 n) i = .int .i64 (c.q.fams.getD i default) := nth_map (fun n => AV.int .i64 n) c.q.fams i hlt
     have r1 := hS.get (n) (.arr 0 17 [cmdAV c]) (by simp)
     have r4 := hS.get (kt) (.arr 0 5 [kindAV c.kind]) (by simp)
     have r6 := hS.get (kq) (.arr 0 10 [qryAV c.q]) (by simp)
     refine awp_skip ?_
     try simp only [go_sem, seval, cmdAV, kindAV]
     refine hK7 _ _ _ ?_
     first | clear hK7 K7 | skip
     refine awp_seq_k fun K8 hK8 => ?_
     refine awp_block ?_
     refine awp_reg zs [3, 9, 11, 133, 134, 135] fun K hK => ?_
     try simp only [go_sem, seval, cmdAV, kindAV, List.length_map, qryAV, numsAV, Int.toNat_natCast, hnth]
     repeat refine peel ?_
     refine hK _ _ _ ?_; clear hK K
     refine awp_reg1 zs [3, 9, 133, 134, 135] fun K hK => ?_
     try simp only [go_sem, seval, cmdAV, kindAV, qryAV, numsAV]
     refine callK_useK (args' := [.loc (n + 1) 0 0 0 [], .int .i64 (c.q.fams.getD i default)]) Tryz.func114 rfl rfl rfl (c_order_writer_uint hS.w (c.q.fams.getD i default) (by omega)) ?_ ?_
     rotate_left
     · intro p H' n' h; cases h.1
     rintro rr G m hW9
     cases hW9.1
     have hS := hS.call hW9
     have r1 := hS.get (n) (.arr 0 17 [cmdAV c]) (by simp)
     have r4 := hS.get (kt) (.arr 0 5 [kindAV c.kind]) (by simp)
     have r6 := hS.get (kq) (.arr 0 10 [qryAV c.q]) (by simp)
     clear hW9
     refine hK _ _ _ ?_; clear hK K
     try simp only [go_sem, seval, cmdAV, kindAV]
     refine hK8 _ _ _ ?_
     first | clear hK8 K8 | skip
     refine awp_reg1 zs [3, 9, 133, 134, 135] fun K hK => ?_
     try simp only [go_sem, seval, cmdAV, kindAV, qryAV, numsAV]
     refine hK _ _ _ ?_; clear hK K
     try simp only [go_sem, seval, cmdAV, kindAV]
     refine ⟨⟨i + 1, by omega, by rw [w1 (by omega)], (hS.up (by omega)).eq (by rw [hfl]; simp)⟩, by rw [w1 (by omega)]; simp; omega⟩
    ·skip
     have hge : i = c.q.fams.length := by simp at hb; omega
     have hil := hc.fams
     have hS := hS.eq (by rw [flatMap_all (fun f => uintB (u64 f)) c.q.fams (by omega)])
     have r1 := hS.get (n) (.arr 0 17 [cmdAV c]) (by simp)
     have r4 := hS.get (kt) (.arr 0 5 [kindAV c.kind]) (by simp)
     have r6 := hS.get (kq) (.arr 0 10 [qryAV c.q]) (by simp)
     refine awp_exit ?_
     try simp only [go_sem, seval, cmdAV, kindAV]
     refine hK6 _ _ _ ?_
     first | clear hK6 K6 | skip
     refine awp_reg zs [3, 9] fun K hK => ?_
     try simp only [go_sem, seval, r6, cmdAV, kindAV, qryAV, numsAV]
     refine callK_useK (args' := [.loc (n + 1) 0 0 0 [], bys (c.q.pre)]) Tryz.func115 rfl rfl rfl (c_order_writer_bytes hS.w (c.q.pre) (by have := hc.pre; have := hc.whr; have := hc.token; omega) (by have := hc.pre; have := hc.whr; have := hc.token; omega)) ?_ ?_
     rotate_left
     · intro p H' n' h; cases h.1
     rintro rr G m hW9
     cases hW9.1
     have hS := hS.call hW9
     have r1 := hS.get (n) (.arr 0 17 [cmdAV c]) (by simp)
     have r4 := hS.get (kt) (.arr 0 5 [kindAV c.kind]) (by simp)
     have r6 := hS.get (kq) (.arr 0 10 [qryAV c.q]) (by simp)
     clear hW9
     refine hK _ _ _ ?_; clear hK K
     refine awp_reg zs [3, 9] fun K hK => ?_
     try simp only [go_sem, seval, r6, cmdAV, kindAV, qryAV, numsAV]
     refine callK_useK (args' := [.loc (n + 1) 0 0 0 [], .int .i64 (c.q.time)]) Tryz.func114 rfl rfl rfl (c_order_writer_uint hS.w (c.q.time) (by have := hc.pre; have := hc.whr; have := hc.token; omega)) ?_ ?_
     rotate_left
     · intro p H' n' h; cases h.1
     rintro rr G m hW9
     cases hW9.1
     have hS := hS.call hW9
     have r1 := hS.get (n) (.arr 0 17 [cmdAV c]) (by simp)
     have r4 := hS.get (kt) (.arr 0 5 [kindAV c.kind]) (by simp)
     have r6 := hS.get (kq) (.arr 0 10 [qryAV c.q]) (by simp)
     clear hW9
     refine hK _ _ _ ?_; clear hK K
     refine awp_reg zs [3, 9] fun K hK => ?_
     try simp only [go_sem, seval, r6, cmdAV, kindAV, qryAV, numsAV]
     refine callK_useK (args' := [.loc (n + 1) 0 0 0 [], .int .i64 (c.q.n)]) Tryz.func114 rfl rfl rfl (c_order_writer_uint hS.w (c.q.n) (by have := hc.pre; have := hc.whr; have := hc.token; omega)) ?_ ?_
     rotate_left
     · intro p H' n' h; cases h.1
     rintro rr G m hW9
     cases hW9.1
     have hS := hS.call hW9
     have r1 := hS.get (n) (.arr 0 17 [cmdAV c]) (by simp)
     have r4 := hS.get (kt) (.arr 0 5 [kindAV c.kind]) (by simp)
     have r6 := hS.get (kq) (.arr 0 10 [qryAV c.q]) (by simp)
     clear hW9
     refine hK _ _ _ ?_; clear hK K
     refine awp_reg zs [3, 9] fun K hK => ?_
     try simp only [go_sem, seval, r6, cmdAV, kindAV, qryAV, numsAV]
     refine callK_useK (args' := [.loc (n + 1) 0 0 0 [], .int .i64 (c.q.rows)]) Tryz.func114 rfl rfl rfl (c_order_writer_uint hS.w (c.q.rows) (by have := hc.pre; have := hc.whr; have := hc.token; omega)) ?_ ?_
     rotate_left
     · intro p H' n' h; cases h.1
     rintro rr G m hW9
     cases hW9.1
     have hS := hS.call hW9
     have r1 := hS.get (n) (.arr 0 17 [cmdAV c]) (by simp)
     have r4 := hS.get (kt) (.arr 0 5 [kindAV c.kind]) (by simp)
     have r6 := hS.get (kq) (.arr 0 10 [qryAV c.q]) (by simp)
     clear hW9
     refine hK _ _ _ ?_; clear hK K
     refine awp_reg zs [3, 9] fun K hK => ?_
     try simp only [go_sem, seval, r6, cmdAV, kindAV, qryAV, numsAV]
     refine callK_useK (args' := [.loc (n + 1) 0 0 0 [], .bool (c.q.rev)]) Tryz.func117 rfl rfl rfl (c_order_writer_flag hS.w (c.q.rev) (by have := hc.pre; have := hc.whr; have := hc.token; omega)) ?_ ?_
     rotate_left
     · intro p H' n' h; cases h.1
     rintro rr G m hW9
     cases hW9.1
     have hS := hS.call hW9
     have r1 := hS.get (n) (.arr 0 17 [cmdAV c]) (by simp)
     have r4 := hS.get (kt) (.arr 0 5 [kindAV c.kind]) (by simp)
     have r6 := hS.get (kq) (.arr 0 10 [qryAV c.q]) (by simp)
     clear hW9
     refine hK _ _ _ ?_; clear hK K
     refine awp_reg zs [3, 9] fun K hK => ?_
     try simp only [go_sem, seval, r6, cmdAV, kindAV, qryAV, numsAV]
     refine callK_useK (args' := [.loc (n + 1) 0 0 0 [], bys (c.q.whr)]) Tryz.func115 rfl rfl rfl (c_order_writer_bytes hS.w (c.q.whr) (by have := hc.pre; have := hc.whr; have := hc.token; omega) (by have := hc.pre; have := hc.whr; have := hc.token; omega)) ?_ ?_
     rotate_left
     · intro p H' n' h; cases h.1
     rintro rr G m hW9
     cases hW9.1
     have hS := hS.call hW9
     have r1 := hS.get (n) (.arr 0 17 [cmdAV c]) (by simp)
     have r4 := hS.get (kt) (.arr 0 5 [kindAV c.kind]) (by simp)
     have r6 := hS.get (kq) (.arr 0 10 [qryAV c.q]) (by simp)
     clear hW9
     refine hK _ _ _ ?_; clear hK K
     refine awp_reg1 zs [3] fun K hK => ?_
     try simp only [go_sem, seval, r6, cmdAV, kindAV, qryAV, numsAV]
     refine callK_useK (args' := [.loc (n + 1) 0 0 0 [], bys (c.q.token)]) Tryz.func115 rfl rfl rfl (c_order_writer_bytes hS.w (c.q.token) (by have := hc.pre; have := hc.whr; have := hc.token; omega) (by have := hc.pre; have := hc.whr; have := hc.token; omega)) ?_ ?_
     rotate_left
     · intro p H' n' h; cases h.1
     rintro rr G m hW9
     cases hW9.1
     have hS := hS.call hW9
     have r1 := hS.get (n) (.arr 0 17 [cmdAV c]) (by simp)
     have r4 := hS.get (kt) (.arr 0 5 [kindAV c.kind]) (by simp)
     have r6 := hS.get (kq) (.arr 0 10 [qryAV c.q]) (by simp)
     clear hW9
     refine hK _ _ _ ?_; clear hK K
     try simp only [go_sem, seval, cmdAV, kindAV]
     first | exact ⟨kt, hk3, (hS.up (by omega)).eq (by rw [cmdB_eq h1 h7, hb7]; simp)⟩ | exact ⟨kt, hk3, (hS.drop.up (by have := hc.fams; have := hc.frm; have := hc.to; have := hc.pre; have := hc.whr; have := hc.token; omega)).eq (by rw [cmdB_eq h1 h7, hb7, if_pos rfl]; simp only [qryB, List.append_assoc])⟩
   ·skip
    have hb7 : kQuery c.kind = false := hb
    refine awp_skip ?_
    try simp only [go_sem, seval, cmdAV, kindAV]
    first | exact ⟨kt, hk3, (hS.up (by omega)).eq (by rw [cmdB_eq h1 h7, hb7]; simp)⟩ | exact ⟨kt, hk3, (hS.drop.up (by have := hc.fams; have := hc.frm; have := hc.to; have := hc.pre; have := hc.whr; have := hc.token; omega)).eq (by rw [cmdB_eq h1 h7, hb7, if_pos rfl]; simp only [qryB, List.append_assoc])⟩
  rintro T1 H1 n1 ⟨kt, rfl, hk3, hS⟩
  have r1 := hS.get (n) (.arr 0 17 [cmdAV c]) (by simp)
  have r4 := hS.get (kt) (.arr 0 5 [kindAV c.kind]) (by simp)
  obtain ⟨ver, hw1, hw2⟩ := hS.out
  refine awp_reg zs [2] fun K hK => ?_
  try simp only [go_sem, seval, hw1]
  refine hK _ _ _ ?_; clear hK K
  refine awp_ret ?_
  try simp only [go_sem, seval]
  exact ⟨ver, rfl, hw2, by have := hS.w.lb; omega, hS.low⟩
end Go.Proofs.YtifnhpmeoogedaaGreatDoor
namespace Go.Proofs.YtifnhpmeoogedaaGreatDoor
open Go Go.Sx Go.Rt Go.Proofs
theorem c_cell_named (s : List UInt8) (H : Heap) (n : Nat) : Ret Tryz.prog 103 [.str s] H n (.bool (namedB s)) H n := by
  refine acalls_of_awp Tryz.func103 rfl Tryz.ntmps103 (congrArg Array.toList Tryz.results103) (by simp) ?_
  simp only [go_sem]
  refine awp_rq zs [0] ?_
  refine awp_seq_k fun K1 hK1 => ?_
  refine awp_reg zs [0, 13] fun K hK => ?_
  try simp only [go_sem, seval]
  repeat (first | (refine And.intro ?_ ?_; · first | (intro h; simp [bout] at h; omega)) | refine peel ?_)
  refine callK_use Tryz.func102 rfl rfl rfl ((by apply c_cell_outside <;> first | assumption | omega)) ?_
  try simp only [go_sem, seval]
  repeat (first | (refine And.intro ?_ ?_; · first | (intro h; simp [bout] at h; omega)) | refine peel ?_)
  refine callG_use Tryz.func138 rfl rfl rfl (fun _ => (by apply c_cell_letter <;> first | assumption | omega)) ?_
  try simp only [go_sem, seval]
  repeat (first | (refine And.intro ?_ ?_; · first | (intro h; simp [bout] at h; omega)) | refine peel ?_)
  refine hK _ _ _ ?_; clear hK K
  refine awp_cnd (fun hb => ?_) (fun hb => ?_)
  ·skip
   refine awp_reg zs [2] fun K hK => ?_
   simp only [go_sem, implies_true, true_and, and_true, List.map_cons, List.map_nil, ↓reduceIte, Nat.reduceLT]
   refine hK _ _ _ (awp_ret ?_)
   simp only [go_sem, ↓reduceIte, implies_true, true_and, and_true]
   cases h1 : bout s.length 1 32 <;> simp_all [namedB]
   --dead
  ·skip
   have h13 : bout s.length 1 32 = false ∧ letterB (s.getD 0 0) = true := by cases h1 : bout s.length 1 32 <;> simp_all
   have hlen := bout_false h13.1
   refine awp_skip ?_
   try simp only [go_sem, seval]
   refine hK1 _ _ _ ?_
   first | clear hK1 K1 | skip
   refine awp_seq_k fun K2 hK2 => ?_
   refine awp_rq zs [0, 15, 16] ?_
   refine awp_block ?_
   refine awp_loop (fun T' H' n' => ∃ i : Nat, i ≤ s.length ∧ T' = tl [(0, .str s), (15, .int .i64 s.length), (16, .int .i64 i)] ∧ H' = H ∧ n' = n ∧ (s.drop i).all nameB = s.all nameB) (fun T' _ _ => s.length - iv (T' 16)) ?_ ?_
   ·skip
    exact ⟨0, Nat.zero_le _, rfl, rfl, rfl, by simp⟩
   intro T1 H1 n1
   rintro ⟨i, hi, rfl, rfl, rfl, hall⟩
   refine awp_rq zs [0, 15, 16, 17] ?_
   refine awp_seq_k fun K3 hK3 => ?_
   refine awp_cnd (fun hb => ?_) (fun hb => ?_)
   ·skip
    have hlt : i < s.length := by simpa using hb
    rw [drop_cons s i hlt, List.all_cons] at hall
    refine awp_skip ?_
    try simp only [go_sem, seval]
    refine hK3 _ _ _ ?_
    first | clear hK3 K3 | skip
    refine awp_seq_k fun K4 hK4 => ?_
    refine awp_block ?_
    refine awp_rq zs [0, 3, 15, 16] ?_
    refine awp_rq zs [0, 4, 15, 16] ?_
    refine awp_reg zs [0, 15, 16, 36] fun K hK => ?_
    try simp only [go_sem, seval]
    refine callK_use Tryz.func138 rfl rfl rfl ((by apply c_cell_letter <;> first | assumption | omega)) ?_
    try simp only [go_sem, seval]
    repeat refine peel ?_
    refine hK _ _ _ ?_; clear hK K
    refine awp_cnd (fun hb => ?_) (fun hb => ?_)
    ·skip
     have hc : nameB (s.getD i 0) = false := by unfold nameB; exact congrArg (!·) hb
     have hend : namedB s = false := by
       have : s.all nameB = false := by rw [← hall]; show (nameB (s.getD i 0) && _) = false; rw [hc]; rfl
       simp [namedB, this]
     refine awp_rq zs [2] ?_
     refine awp_ret ?_
     try simp only [go_sem, seval]
     rw [hend]
    ·skip
     have hc : nameB (s.getD i 0) = true := by unfold nameB; exact congrArg (!·) hb
     refine awp_skip ?_
     try simp only [go_sem, seval]
     refine hK4 _ _ _ ?_
     first | clear hK4 K4 | skip
     refine awp_reg1 zs [0, 15, 16] fun K hK => ?_
     try simp only [go_sem, seval]
     refine hK _ _ _ ?_; clear hK K
     try simp only [go_sem, seval]
     refine ⟨⟨i + 1, by omega, by rw [w1 (by omega)], ?_⟩, by rw [w1 (by omega)]; simp; omega⟩
     rw [← hall]; show _ = (nameB (s.getD i 0) && _); rw [hc]; rfl
   ·skip
    have hge : i = s.length := by simp at hb; omega
    have hend : namedB s = true := by
      have : s.all nameB = true := by rw [← hall, hge]; simp
      simp only [namedB, this, h13.1, h13.2]; rfl
    refine awp_exit ?_
    try simp only [go_sem, seval]
    refine hK2 _ _ _ ?_
    first | clear hK2 K2 | skip
    refine awp_rq zs [2] ?_
    refine awp_ret ?_
    try simp only [go_sem, seval]
    rw [hend]
theorem c_cell_Family (s : List Fml) (name : List UInt8) (hl : s.length ≤ 1048576) (H : Heap) (n : Nat) : Ret Tryz.prog 104 [schAV s, .str name] H n (.int .i64 (famIx s name 0)) H n := by
  refine Ret.fin ?_
  refine acalls_of_awp Tryz.func104 rfl Tryz.ntmps104 (congrArg Array.toList Tryz.results104) (by simp) ?_
  simp only [go_sem]
  refine awp_rq zs [1, 2] ?_
  refine awp_seq_k fun K1 hK1 => ?_
  refine awp_rq zs [1, 8, 9, 10] ?_
  refine awp_block ?_
  refine awp_loop (fun T' H' n' => ∃ i : Nat, i ≤ s.length ∧ T' = tl [(1, .str name), (8, .sl 3 (s.map famAV)), (9, .int .i64 s.length), (10, .int .i64 i)] ∧ n ≤ n' ∧ (∀ k, k < n → H' k = H k) ∧ famIx (s.drop i) name i = famIx s name 0) (fun T' _ _ => s.length - iv (T' 10)) ?_ ?_
  ·skip
   refine ⟨0, Nat.zero_le _, by rw [List.length_map]; rfl, by omega, ?_, rfl⟩
   intro k hk; have h0 : k ≠ n := by omega
   simp [Heap.put, h0]
  intro T1 H1 n1
  rintro ⟨i, hi, rfl, hn, hH, hix⟩
  refine awp_rq zs [1, 8, 9, 10, 11] ?_
  refine awp_seq_k fun K2 hK2 => ?_
  refine awp_cnd (fun hb => ?_) (fun hb => ?_)
  ·skip
   have hlt : i < s.length := by simpa using hb
   rw [drop_cons s i hlt, famIx] at hix
   refine awp_skip ?_
   try simp only [go_sem, seval]
   refine hK2 _ _ _ ?_
   first | clear hK2 K2 | skip
   refine awp_seq_k fun K3 hK3 => ?_
   refine awp_block ?_
   have hnth : nth (s.map famAV) i = famAV (s.getD i default) := nth_map famAV s i hlt
   refine awp_reg zs [1, 5, 6, 8, 9, 10] fun K hK => ?_
   try simp only [go_sem, seval, Int.toNat_natCast, hnth]
   repeat refine peel ?_
   refine hK _ _ _ ?_; clear hK K
   refine awp_reg zs [1, 5, 8, 9, 10, 18] fun K hK => ?_
   try simp only [go_sem, seval, Int.toNat_natCast]
   refine hK _ _ _ ?_; clear hK K
   refine awp_cnd (fun hb => ?_) (fun hb => ?_)
   ·skip
    have he : (s.getD i default).name = name := by simpa using hb
    rw [if_pos he] at hix
    refine awp_rq zs [4] ?_
    refine awp_ret ?_
    try simp only [go_sem, seval]
    refine ⟨_, rfl, ?_, Frz.eq ?_ trivial⟩
    · intro k hk; have h0 : k ≠ n1 := by omega
      simp [Heap.put, h0, hH k hk]
    rw [← hix]
   ·skip
    have he : ¬ (s.getD i default).name = name := by simpa using hb
    rw [if_neg he] at hix
    refine awp_skip ?_
    try simp only [go_sem, seval]
    refine hK3 _ _ _ ?_
    first | clear hK3 K3 | skip
    refine awp_reg1 zs [1, 8, 9, 10] fun K hK => ?_
    try simp only [go_sem, seval]
    refine hK _ _ _ ?_; clear hK K
    try simp only [go_sem, seval]
    refine ⟨⟨i + 1, by omega, by rw [w1 (by omega)], by omega, ?_, hix⟩, by rw [w1 (by omega)]; simp; omega⟩
    intro k hk; have h0 : k ≠ n1 := by omega
    simp [h0, hH k hk]
  ·skip
   have hge : i = s.length := by simp at hb; omega
   have hix : (-1 : Int) = famIx s name 0 := by rw [← hix, hge]; simp [famIx]
   refine awp_exit ?_
   try simp only [go_sem, seval]
   refine hK1 _ _ _ ?_
   first | clear hK1 K1 | skip
   refine awp_rq zs [4] ?_
   refine awp_ret ?_
   try simp only [go_sem, seval]
   refine ⟨_, rfl, ?_, Frz.eq ?_ trivial⟩
   · intro k hk; have h0 : k ≠ n1 := by omega
     simp [Heap.put, h0, hH k hk]
   rw [← hix]
end Go.Proofs.YtifnhpmeoogedaaGreatDoor
namespace Go.Proofs.YtifnhpmeoogedaaGreatDoor
open Go Go.Sx Go.Rt Go.Proofs
end Go.Proofs.YtifnhpmeoogedaaGreatDoor
namespace Go.Proofs.YtifnhpmeoogedaaGreatDoor
open Go Go.Sx Go.Rt Go.Proofs
end Go.Proofs.YtifnhpmeoogedaaGreatDoor
namespace Go.Proofs.YtifnhpmeoogedaaGreatDoor
open Go Go.Sx Go.Rt Go.Proofs
theorem c_cell_CheckSchema (s : List Fml) (H : Heap) (n : Nat) : Ret Tryz.prog 47 [schAV s] H n (.int .i64 (schemaE s)) H n := by
  refine Ret.fin ?_
  refine acalls_of_awp Tryz.func47 rfl Tryz.ntmps47 (congrArg Array.toList Tryz.results47) (by simp) ?_
  simp only [go_sem]
  refine awp_rq zs [1] ?_
  refine awp_seq_k fun K1 hK1 => ?_
  refine awp_reg zs [1, 8] fun K hK => ?_
  try simp only [go_sem, seval]
  refine callK_use Tryz.func102 rfl rfl rfl ((by apply c_cell_outside <;> first | assumption | omega)) ?_
  refine hK _ _ _ ?_; clear hK K
  refine awp_cnd (fun hb => ?_) (fun hb => ?_)
  ·skip
   have hres : (28 : Int) = schemaE s := by
     have : bout s.length 1 8 = true := by simpa using hb
     simp [schemaE, this]
   refine awp_rq zs [2] ?_
   refine awp_ret ?_
   try simp only [go_sem, seval]
   refine ⟨_, rfl, ?_, Frz.eq (by rw [hres]) trivial⟩
   intro k hk; have h0 : k ≠ n := by omega
   first | (simp [Heap.put, h0]; done) | exact hH k hk | (have h1 : k ≠ n1 := (by omega); simp [Heap.put, h0, h1, hH k hk])
  ·skip
   have hb8 : bout s.length 1 8 = false := by simpa using hb
   have hlen := bout_false hb8
   refine awp_skip ?_
   try simp only [go_sem, seval]
   refine hK1 _ _ _ ?_
   first | clear hK1 K1 | skip
   refine awp_seq_k fun K2 hK2 => ?_
   refine awp_rq zs [1, 10, 11, 12] ?_
   refine awp_block ?_
   refine awp_loop (fun T' H' n' => ∃ i : Nat, i ≤ s.length ∧ T' = tl [(1, .loc n 0 0 0 []), (10, .sl 3 (s.map famAV)), (11, .int .i64 s.length), (12, .int .i64 i)] ∧ n + 1 ≤ n' ∧ H' n = some (.arr 0 1 [schAV s]) ∧ (∀ k, k < n → H' k = H k) ∧ famsBad s (s.drop i) i = famsBad s s 0) (fun T' _ _ => s.length - iv (T' 12)) ?_ ?_
   ·skip
    refine ⟨0, Nat.zero_le _, by rw [List.length_map]; rfl, by omega, ?_, ?_, rfl⟩
    · simp [Heap.put, schAV]
    · intro k hk; have h0 : k ≠ n := by omega
      simp [Heap.put, h0]
   intro T1 H1 n1
   rintro ⟨i, hi, rfl, hn, hHn, hH, hix⟩
   refine awp_rq zs [1, 10, 11, 12, 13] ?_
   refine awp_seq_k fun K3 hK3 => ?_
   refine awp_cnd (fun hb => ?_) (fun hb => ?_)
   ·skip
    have hlt : i < s.length := by simpa using hb
    rw [drop_cons s i hlt, famsBad_cons] at hix
    have hn1 : (n = n1) = False := by simp; omega
    simp only [schAV] at hHn
    refine awp_skip ?_
    try simp only [go_sem, seval]
    refine hK3 _ _ _ ?_
    first | clear hK3 K3 | skip
    refine awp_seq_k fun K4 hK4 => ?_
    refine awp_block ?_
    have hnth : nth (s.map famAV) i = famAV (s.getD i default) := nth_map famAV s i hlt
    refine awp_reg zs [1, 3, 4, 10, 11, 12] fun K hK => ?_
    try simp only [go_sem, seval, Int.toNat_natCast, hnth]
    repeat refine peel ?_
    refine hK _ _ _ ?_; clear hK K
    refine awp_reg zs [1, 10, 11, 12, 38] fun K hK => ?_
    try simp only [go_sem, seval, Int.toNat_natCast]
    refine callK_use Tryz.func103 rfl rfl rfl ((c_cell_named (s.getD i default).name _ _)) ?_
    try simp only [go_sem, seval, hn1, hHn]
    refine callG_use Tryz.func104 rfl rfl rfl (fun _ => (c_cell_Family s (s.getD i default).name (by omega) _ _)) ?_
    try simp only [go_sem, seval]
    repeat refine peel ?_
    refine callG_use Tryz.func102 rfl rfl rfl (fun _ => (c_cell_outside (s.getD i default).max 1 16 _ _)) ?_
    try simp only [go_sem, seval]
    repeat refine peel ?_
    refine callG_use Tryz.func102 rfl rfl rfl (fun _ => (c_cell_outside (s.getD i default).ttl 0 1099511627776 _ _)) ?_
    try simp only [go_sem, seval]
    repeat refine peel ?_
    refine hK _ _ _ ?_; clear hK K
    refine awp_cnd (fun hb => ?_) (fun hb => ?_)
    ·skip
     have hbad : famBad s (s.getD i default) i = true := by
       simp only [famBad]; cases h1 : namedB (s.getD i default).name <;> cases h2 : bout (s.getD i default).max 1 16 <;> simp_all
     have hres : (28 : Int) = schemaE s := by rw [hbad] at hix; simp [schemaE, hb8, ← hix]
     refine awp_rq zs [2] ?_
     refine awp_ret ?_
     try simp only [go_sem, seval]
     refine ⟨_, rfl, ?_, Frz.eq (by rw [hres]) trivial⟩
     intro k hk; have h0 : k ≠ n := by omega
     first | (simp [Heap.put, h0]; done) | exact hH k hk | (have h1 : k ≠ n1 := (by omega); simp [Heap.put, h0, h1, hH k hk])
    ·skip
     have hbad : famBad s (s.getD i default) i = false := by
       simp only [famBad]; cases h1 : namedB (s.getD i default).name <;> cases h2 : bout (s.getD i default).max 1 16 <;> simp_all
     rw [hbad, Bool.false_or] at hix
     refine awp_skip ?_
     try simp only [go_sem, seval]
     refine hK4 _ _ _ ?_
     first | clear hK4 K4 | skip
     refine awp_reg1 zs [1, 10, 11, 12] fun K hK => ?_
     try simp only [go_sem, seval]
     refine hK _ _ _ ?_; clear hK K
     try simp only [go_sem, seval]
     refine ⟨⟨i + 1, by omega, by rw [w1 (by omega)], by omega, ?_, ?_, hix⟩, by rw [w1 (by omega)]; simp; omega⟩
     · simp [hn1, hHn, schAV]
     · intro k hk; have h0 : k ≠ n1 := by omega
       simp [h0, hH k hk]
   ·skip
    have hge : i = s.length := by simp at hb; omega
    have hres : (0 : Int) = schemaE s := by rw [hge] at hix; simp [famsBad] at hix; simp [schemaE, hb8, hix]
    refine awp_exit ?_
    try simp only [go_sem, seval]
    refine hK2 _ _ _ ?_
    first | clear hK2 K2 | skip
    refine awp_rq zs [2] ?_
    refine awp_ret ?_
    try simp only [go_sem, seval]
    refine ⟨_, rfl, ?_, Frz.eq (by rw [hres]) trivial⟩
    intro k hk; have h0 : k ≠ n := by omega
    first | (simp [Heap.put, h0]; done) | exact hH k hk | (have h1 : k ≠ n1 := (by omega); simp [Heap.put, h0, h1, hH k hk])
end Go.Proofs.YtifnhpmeoogedaaGreatDoor
namespace Go.Proofs.YtifnhpmeoogedaaGreatDoor
open Go Go.Sx Go.Rt Go.Proofs
theorem c_order_written (c : CmdE) (hc : c.fits) (h1 : 1 ≤ c.kind) (h7 : c.kind ≤ 7) (H : Heap) (n : Nat) (hG : GOK 0 2 H n) : Ret Tryz.prog 55 [cmdAV c] H n (bys (cmdB c)) H n :=
  Ret.fin ((o_order_written c hc h1 h7 H n hG).mono fun res H1 n1 ⟨ver, hr, hk, hn, hlow⟩ => ⟨_, hr, hlow, .osl hk (by omega) (by simp) (by
    rw [List.drop_zero, List.take_of_length_le (by simp)]; exact frzL_kl _ (kls0_bytes _ n))⟩)
theorem c_slices_Equal (a b : List Int) (ha : a.length ≤ 1048576) (H : Heap) (n : Nat) : Ret Tryz.prog 112 [numsAV a, numsAV b] H n (.bool (decide (a = b))) H n := by
  refine acalls_of_awp Tryz.func112 rfl Tryz.ntmps112 (congrArg Array.toList Tryz.results112) (by simp) ?_
  simp only [go_sem]
  refine awp_reg zs [0, 1] fun K hK => ?_
  try simp only [go_sem, seval, numsAV]
  refine hK _ _ _ ?_; clear hK K
  refine awp_seq_k fun K1 hK1 => ?_
  refine awp_reg zs [0, 1, 10] fun K hK => ?_
  try simp only [go_sem, seval, List.length_map]
  refine hK _ _ _ ?_; clear hK K
  refine awp_cnd (fun hb => ?_) (fun hb => ?_)
  ·skip
   have hne : ¬ a = b := fun e => by rw [e] at hb; simp at hb
   refine awp_reg zs [4] fun K hK => ?_
   try simp only [go_sem, seval]
   refine hK _ _ _ ?_; clear hK K
   refine awp_ret ?_
   try simp only [go_sem, seval]
   first | simp [heq] | simp [hne]
  ·skip
   have hl : a.length = b.length := by simp at hb; omega
   refine awp_skip ?_
   try simp only [go_sem, seval]
   refine hK1 _ _ _ ?_
   first | clear hK1 K1 | skip
   refine awp_seq_k fun K2 hK2 => ?_
   refine awp_reg zs [0, 1, 12, 13] fun K hK => ?_
   try simp only [go_sem, seval, List.length_map]
   refine hK _ _ _ ?_; clear hK K
   refine awp_block ?_
   refine awp_loop (fun T' H' n' => ∃ i : Nat, i ≤ a.length ∧ T' = tl [(0, .sl 1 (a.map fun x => .int .i64 x)), (1, .sl 1 (b.map fun x => .int .i64 x)), (12, .int .i64 a.length), (13, .int .i64 i)] ∧ H' = H ∧ n' = n ∧ (a.drop i = b.drop i ↔ a = b)) (fun T' _ _ => a.length - iv (T' 13)) ?_ ?_
   ·skip
    exact ⟨0, Nat.zero_le _, rfl, rfl, rfl, by simp⟩
   intro T1 H1 n1
   rintro ⟨i, hi, rfl, rfl, rfl, hix⟩
   refine awp_reg zs [0, 1, 12, 13, 14] fun K hK => ?_
   try simp only [go_sem, seval]
   refine hK _ _ _ ?_; clear hK K
   refine awp_seq_k fun K3 hK3 => ?_
   refine awp_cnd (fun hb => ?_) (fun hb => ?_)
   ·skip
    have hlt : i < a.length := by simpa using hb
    have hlt2 : i < b.length := by omega
    rw [drop_cons a i hlt, drop_cons b i hlt2, List.cons.injEq] at hix
    have hn1 : nth (a.map fun x => AV.int .i64 x) i = .int .i64 (a.getD i default) := nth_map (fun x => AV.int .i64 x) a i hlt
    have hn2 : nth (b.map fun x => AV.int .i64 x) i = .int .i64 (b.getD i default) := nth_map (fun x => AV.int .i64 x) b i hlt2
    refine awp_skip ?_
    try simp only [go_sem, seval]
    refine hK3 _ _ _ ?_
    first | clear hK3 K3 | skip
    refine awp_seq_k fun K4 hK4 => ?_
    refine awp_block ?_
    refine awp_reg zs [0, 1, 5, 12, 13] fun K hK => ?_
    try simp only [go_sem, seval]
    refine hK _ _ _ ?_; clear hK K
    refine awp_drw rfl zs [0, 1, 12, 13, 24] [.m, .m, .q, .q, .m, .m, .q, .q, .q] (by kernel_rfl) (fun _ _ _ _ _ h => h) fun K hK => ?_
    try simp only [go_sem, seval, List.length_map, Int.toNat_natCast, hn1, hn2]
    repeat refine peel ?_
    refine hK _ _ _ ?_; clear hK K
    refine awp_cnd (fun hb => ?_) (fun hb => ?_)
    ·skip
     have hne : ¬ a = b := fun e => by rw [← hix] at e; have := e.1; simp_all
     refine awp_reg zs [4] fun K hK => ?_
     try simp only [go_sem, seval]
     refine hK _ _ _ ?_; clear hK K
     refine awp_ret ?_
     try simp only [go_sem, seval]
     first | simp [heq] | simp [hne]
    ·skip
     have hx : a.getD i default = b.getD i default := by simp at hb; simpa using hb
     have hnext : (a.drop (i + 1) = b.drop (i + 1)) ↔ a = b := by rw [← hix]; simp only [hx, true_and]
     refine awp_skip ?_
     try simp only [go_sem, seval]
     refine hK4 _ _ _ ?_
     first | clear hK4 K4 | skip
     refine awp_reg1 zs [0, 1, 12, 13] fun K hK => ?_
     try simp only [go_sem, seval]
     refine hK _ _ _ ?_; clear hK K
     try simp only [go_sem, seval]
     exact ⟨⟨i + 1, by omega, by rw [w1 (by omega)], hnext⟩, by rw [w1 (by omega)]; simp; omega⟩
   ·skip
    have hge : i = a.length := by simp at hb; omega
    have heq : a = b := by rw [← hix, hge, List.drop_length, hl, List.drop_length]
    refine awp_exit ?_
    try simp only [go_sem, seval]
    refine hK2 _ _ _ ?_
    first | clear hK2 K2 | skip
    refine awp_reg zs [4] fun K hK => ?_
    try simp only [go_sem, seval]
    refine hK _ _ _ ?_; clear hK K
    refine awp_ret ?_
    try simp only [go_sem, seval]
    first | simp [heq] | simp [hne]
set_option maxRecDepth 100000 in
set_option maxHeartbeats 1600000 in
theorem c_order_sameQuery (a b : QryE) (ha : a.fams.length ≤ 1048576) (H : Heap) (n : Nat) : Ret Tryz.prog 54 [qryAV a, qryAV b] H n (.bool (decide (a = b))) H n := by
  refine Ret.fin ?_
  refine acalls_of_awp Tryz.func54 rfl Tryz.ntmps54 (congrArg Array.toList Tryz.results54) (by simp) ?_
  simp only [go_sem]
  refine awp_reg zs [2, 3] fun K hK => ?_
  try simp only [go_sem, seval, qryAV, numsAV]
  refine hK _ _ _ ?_; clear hK K
  refine awp_reg zs [4] fun K hK => ?_
  try simp only [go_sem, seval]
  refine callK_use Tryz.func77 rfl rfl rfl ((c_bytes_Equal a.frm b.frm _ _)) ?_
  try simp only [go_sem, seval]
  refine callG_use Tryz.func77 rfl rfl rfl (fun _ => (c_bytes_Equal a.to b.to _ _)) ?_
  try simp only [go_sem, seval]
  repeat refine peel ?_
  refine callG_use Tryz.func112 rfl rfl rfl (fun _ => (c_slices_Equal a.fams b.fams ha _ _)) ?_
  try simp only [go_sem, seval]
  repeat refine peel ?_
  refine callG_use Tryz.func77 rfl rfl rfl (fun _ => (c_bytes_Equal a.pre b.pre _ _)) ?_
  try simp only [go_sem, seval]
  repeat refine peel ?_
  refine callG_use Tryz.func77 rfl rfl rfl (fun _ => (c_bytes_Equal a.token b.token _ _)) ?_
  try simp only [go_sem, seval]
  repeat refine peel ?_
  refine hK _ _ _ ?_; clear hK K
  refine awp_ret ?_
  try simp only [go_sem, seval]
  refine ⟨_, rfl, ?_, Frz.eq ?_ trivial⟩
  · intro k hk; have h0 : k ≠ n := by omega
    have h1 : ∀ j, k ≠ n + j := fun j => by omega
    simp [Heap.put, h0, h1]
  · congr 1
    cases a; cases b
    rw [Bool.eq_iff_iff]
    simp only [QryE.mk.injEq, decide_eq_true_eq, Bool.cond_false_right, Bool.and_eq_true, beq_iff_eq, and_assoc]
end Go.Proofs.YtifnhpmeoogedaaGreatDoor
namespace Go.Rt
open Go Go.Sx
def zq : QryE := ⟨[], [], [], [], 0, 0, 0, false, [], []⟩
def cb3 (c : CmdE) : Bool := bout c.client (if kClient c.kind then 1 else 0) (if kClient c.kind || kFree c.kind then 1099511627776 else 0)
def cb4 (c : CmdE) : Bool := bif bout c.serial 0 1099511627776 then true else !((c.serial == 0) == (c.client == 0))
def cb5 (c : CmdE) : Bool := bif (bif kOps c.kind then bout c.row.length 1 256 else false) then true else (bif !kOps c.kind then decide (0 < (c.row.length : Int)) else false)
def cb6 (nf : Nat) (c : CmdE) : Bool := bif (bif (bif !kOps c.kind then decide (0 < (c.conds.length : Int)) else false) then true else decide (8 < (c.conds.length : Int))) then true else !(c.conds.all (condOK nf))
def cb7 (c : CmdE) : Bool := bif (bif kOps c.kind then bout c.ops.length 1 16 else false) then true else (bif !kOps c.kind then decide (0 < (c.ops.length : Int)) else false)
def cb8 (nf : Nat) (c : CmdE) : Bool := !(c.ops.all (opOK nf))
def cb9 (c : CmdE) : Bool := bif (bif decide (kLeast c.kind < 0) then c.n != 0 else false) then true else (bif decide (0 ≤ kLeast c.kind) then bout c.n (kLeast c.kind) 1099511627776 else false)
def tailC (c : CmdE) : Int := if decide (98304 < ((cmdB c).length : Int)) then 2 else 0
def checkC (qc : Int) (s : List Fml) (c : CmdE) : Int :=
  if schemaE s != 0 then 28
  else if bout c.kind 1 7 then 141
  else if cb3 c then 142
  else if cb4 c then 143
  else if cb5 c then 20
  else if cb6 s.length c then 146
  else if cb7 c then 144
  else if cb8 s.length c then 145
  else if cb9 c then 148
  else if kQuery c.kind then (if qc != 0 then qc else tailC c)
  else if !decide (c.q = zq) then 130
  else tailC c
end Go.Rt
namespace Go.Rt
open Go Go.Sx
def ruL (b : List UInt8) (p : Nat) : Nat → Nat → Nat × Nat × Int
  | 0, _ => (0, 0, 13)
  | f + 1, v =>
    if b.length ≤ p + (9 - f) then (0, 0, 10)
    else if (9 - f = 9) ∧ 1 < (b.getD (p + (9 - f)) 0).toNat then (0, 0, 13)
    else if (b.getD (p + (9 - f)) 0).toNat < 128 then
      (if (b.getD (p + (9 - f)) 0).toNat = 0 ∧ 0 < 9 - f then (0, 0, 11) else (v + (b.getD (p + (9 - f)) 0).toNat % 128 * 2 ^ (7 * (9 - f)), p + (9 - f) + 1, 0))
    else ruL b p f (v + (b.getD (p + (9 - f)) 0).toNat % 128 * 2 ^ (7 * (9 - f)))
def ruB (b : List UInt8) (p : Nat) : Nat × Nat × Int := if b.length < p then (0, 0, 1) else ruL b p 10 0
def rbB (b : List UInt8) (p most : Nat) : List UInt8 × Nat × Int :=
  if b.length < p then ([], 0, 1)
  else if (ruB b p).2.2 ≠ 0 then ([], 0, (ruB b p).2.2)
  else if most < (ruB b p).1 then ([], 0, 13)
  else if b.length - (ruB b p).2.1 < (ruB b p).1 then ([], 0, 10)
  else ((b.drop (ruB b p).2.1).take (ruB b p).1, (ruB b p).2.1 + (ruB b p).1, 0)
theorem ruL_lt (b : List UInt8) (p : Nat) : ∀ (f v : Nat), f ≤ 10 → v < 2 ^ (7 * (10 - f)) → (ruL b p f v).1 < 18446744073709551616 ∧ ((ruL b p f v).2.2 = 0 → (ruL b p f v).2.1 ≤ b.length ∧ p < (ruL b p f v).2.1) ∧ (ruL b p f v).2.1 ≤ b.length + p
  | 0, v, _, _ => by simp [ruL]
  | f + 1, v, hf, hv => by
    unfold ruL
    have hc := (b.getD (p + (9 - f)) 0).toNat_lt
    split
    · simp
    · rename_i h1
      split
      · simp
      · rename_i h2
        have e1 : 10 - (f + 1) = 9 - f := by omega
        rw [e1] at hv
        split
        · rename_i h3
          split
          · simp
          · refine ⟨?_, fun _ => ⟨by show p + (9 - f) + 1 ≤ b.length; omega, by show p < p + (9 - f) + 1; omega⟩, by show p + (9 - f) + 1 ≤ b.length + p; omega⟩
            show v + (b.getD (p + (9 - f)) 0).toNat % 128 * 2 ^ (7 * (9 - f)) < 18446744073709551616
            rcases Nat.lt_or_ge 0 f with h0 | h0
            · have h4 : 2 ^ (7 * (9 - f)) ≤ 2 ^ 56 := Nat.pow_le_pow_right (by omega) (by omega)
              have h5 : (b.getD (p + (9 - f)) 0).toNat % 128 * 2 ^ (7 * (9 - f)) ≤ 127 * 2 ^ 56 := Nat.mul_le_mul (by omega) h4
              omega
            · have h6 : f = 0 := by omega
              subst h6
              have h7 : (b.getD (p + (9 - 0)) 0).toNat ≤ 1 := by
                rcases Nat.lt_or_ge 1 (b.getD (p + (9 - 0)) 0).toNat with h | h
                · exact absurd ⟨rfl, h⟩ h2
                · exact h
              have h5 : (b.getD (p + (9 - 0)) 0).toNat % 128 * 2 ^ (7 * (9 - 0)) ≤ 1 * 2 ^ 63 := Nat.mul_le_mul (by omega) (by omega)
              omega
        · rename_i h3
          refine ruL_lt b p f _ (by omega) ?_
          rcases Nat.lt_or_ge 0 f with h0 | h0
          · have e2 : 7 * (10 - f) = 7 * (9 - f) + 7 := by omega
            rw [e2, Nat.pow_add]
            have h5 : (b.getD (p + (9 - f)) 0).toNat % 128 * 2 ^ (7 * (9 - f)) ≤ 127 * 2 ^ (7 * (9 - f)) := Nat.mul_le_mul_right _ (by omega)
            omega
          · have h6 : f = 0 := by omega
            subst h6
            exfalso
            refine h2 ⟨rfl, by omega⟩
theorem ruB_lt (b : List UInt8) (p : Nat) : (ruB b p).1 < 18446744073709551616 ∧ ((ruB b p).2.2 = 0 → (ruB b p).2.1 ≤ b.length ∧ p < (ruB b p).2.1) ∧ (ruB b p).2.1 ≤ b.length + p := by
  unfold ruB; split
  · simp
  · exact ruL_lt b p 10 0 (by omega) (by simp)
def rdByte (b : List UInt8) (p : Nat) : Option (Int × Nat) := if b.length ≤ p then none else some (((b.getD p 0).toNat : Int), p + 1)
def rdUint (b : List UInt8) (p : Nat) : Option (Int × Nat) := if (ruB b p).2.2 ≠ 0 then none else if 9223372036854775807 < (ruB b p).1 then none else some (((ruB b p).1 : Int), (ruB b p).2.1)
def rdBytes (b : List UInt8) (p : Nat) : Option (List UInt8 × Nat) := if (rbB b p b.length).2.2 ≠ 0 then none else some ((rbB b p b.length).1, (rbB b p b.length).2.1)
def be8 (l : List UInt8) : Nat := l.foldl (fun n c => n * 256 + c.toNat) 0
def rdDelta (b : List UInt8) (p : Nat) : Option (Int × Nat) := if b.length < p + 8 then none else some (IntKind.i64.wrap (be8 ((b.drop p).take 8) : Int), p + 8)
def rdCount (b : List UInt8) (p : Nat) : Option (Nat × Nat) := (rdUint b p).bind fun x => if b.length < x.2 + x.1.toNat then none else some (x.1.toNat, x.2)
def rdCond (b : List UInt8) (p : Nat) : Option (CondE × Nat) :=
  (rdByte b p).bind fun k => (rdByte b k.2).bind fun f => (rdBytes b f.2).bind fun q => (rdBytes b q.2).bind fun v => some (⟨k.1, f.1, q.1, v.1⟩, v.2)
def rdOp (b : List UInt8) (p : Nat) : Option (OpE × Nat) :=
  (rdByte b p).bind fun k => (rdByte b k.2).bind fun f => (rdBytes b f.2).bind fun q => (rdUint b q.2).bind fun t => (rdBytes b t.2).bind fun v => (rdDelta b v.2).bind fun d => some (⟨k.1, f.1, q.1, t.1, v.1, d.1⟩, d.2)
def rdMany {α : Type} (rd : List UInt8 → Nat → Option (α × Nat)) (b : List UInt8) : Nat → Nat → List α → Option (List α × Nat)
  | 0, p, acc => some (acc, p)
  | k + 1, p, acc => (rd b p).bind fun x => rdMany rd b k x.2 (acc ++ [x.1])
def rdList {α : Type} (rd : List UInt8 → Nat → Option (α × Nat)) (b : List UInt8) (p : Nat) : Option (List α × Nat) := (rdCount b p).bind fun x => rdMany rd b x.1 x.2 []
def rdQry (b : List UInt8) (p : Nat) : Option (QryE × Nat) :=
  (rdBytes b p).bind fun f => (rdBytes b f.2).bind fun t => (rdList rdUint b t.2).bind fun l => (rdBytes b l.2).bind fun pr => (rdUint b pr.2).bind fun ti => (rdUint b ti.2).bind fun n => (rdUint b n.2).bind fun r =>
  (rdByte b r.2).bind fun rv => (rdBytes b rv.2).bind fun w => (rdBytes b w.2).bind fun tk => some (⟨f.1, t.1, l.1, pr.1, ti.1, n.1, r.1, rv.1 == 1, w.1, tk.1⟩, tk.2)
def zc : CmdE := ⟨0, 0, 0, [], [], [], 0, zq⟩
def rs1 (b : List UInt8) (p : Nat) : Option (CmdE × Nat) := (rdByte b p).bind fun k => if bout k.1 1 7 then none else some ({ zc with kind := k.1 }, k.2)
def rs2 (b : List UInt8) (c : CmdE) (p : Nat) : Option (CmdE × Nat) := if kClient c.kind || kFree c.kind then (rdUint b p).bind fun x => (rdUint b x.2).bind fun y => some ({ c with client := x.1, serial := y.1 }, y.2) else some (c, p)
def rs3 (b : List UInt8) (c : CmdE) (p : Nat) : Option (CmdE × Nat) := if kOps c.kind then (rdBytes b p).bind fun r => (rdList rdCond b r.2).bind fun x => (rdList rdOp b x.2).bind fun y => some ({ c with row := r.1, conds := x.1, ops := y.1 }, y.2) else some (c, p)
def rs4 (b : List UInt8) (c : CmdE) (p : Nat) : Option (CmdE × Nat) := if 0 ≤ kLeast c.kind then (rdUint b p).bind fun x => some ({ c with n := x.1 }, x.2) else some (c, p)
def rs5 (b : List UInt8) (c : CmdE) (p : Nat) : Option (CmdE × Nat) := if kQuery c.kind then (rdQry b p).bind fun x => some ({ c with q := x.1 }, x.2) else some (c, p)
def rdCmd (b : List UInt8) : Option CmdE := (rs1 b 0).bind fun x => (rs2 b x.1 x.2).bind fun x => (rs3 b x.1 x.2).bind fun x => (rs4 b x.1 x.2).bind fun x => (rs5 b x.1 x.2).bind fun x => if x.2 = b.length then some x.1 else none
theorem and127 (c : UInt8) : intBits .and .u8 (c.toNat : Int) 127 = ((c.toNat % 128 : Nat) : Int) := by
  have key : ∀ r : Fin 256, intBits .and .u8 ((r.1 : Nat) : Int) 127 = ((r.1 % 128 : Nat) : Int) := by decide +kernel
  exact key ⟨c.toNat, c.toNat_lt⟩
theorem or64 {x m k : Nat} (hx : x < 2 ^ k) (h : x + m * 2 ^ k < 18446744073709551616) : intBits .or .u64 (x : Int) ((m * 2 ^ k : Nat) : Int) = ((x + m * 2 ^ k : Nat) : Int) := by
  have h1 : x < 2 ^ 64 := by omega
  have h2 : m * 2 ^ k < 2 ^ 64 := by omega
  show IntKind.u64.wrap (((BitVec.ofInt 64 (x : Int)) ||| (BitVec.ofInt 64 ((m * 2 ^ k : Nat) : Int))).toNat : Int) = _
  rw [BitVec.ofInt_natCast, BitVec.ofInt_natCast, BitVec.toNat_or, BitVec.toNat_ofNat, BitVec.toNat_ofNat, Nat.mod_eq_of_lt h1, Nat.mod_eq_of_lt h2, Nat.or_comm, Nat.mul_comm m (2 ^ k), ← Nat.two_pow_add_eq_or_of_lt hx m, IntKind.wrap_u64]
  have e : 2 ^ k * m + x = x + 2 ^ k * m := by omega
  rw [e]
  have h3 : x + 2 ^ k * m < 18446744073709551616 := by rw [Nat.mul_comm]; exact h
  omega
end Go.Rt
namespace Go.Rt
open Go Go.Sx
def rdO (b : List UInt8) (p : Nat) : AObj := .arr 0 2 [.agg [bys b, .int .i64 p]]
def RdK (torn : AV) (kr : Nat) (b : List UInt8) (H : Heap) (n : Nat) (r : Option (AV × Nat)) (res : ARes) (H' : Heap) (n' : Nat) : Prop :=
  match r with
  | some x => res = .val x.1 ∧ H' = H.put kr (some (rdO b x.2)) ∧ n' = n
  | none => res = .pan torn ∧ n ≤ n' ∧ ∀ k, k < n → k ≠ kr → H' k = H k
theorem RdK.val {torn : AV} {kr : Nat} {b : List UInt8} {H : Heap} {n : Nat} {r : Option (AV × Nat)} {v : AV} {H' : Heap} {n' : Nat} (h : RdK torn kr b H n r (.val v) H' n') : ∃ p, r = some (v, p) ∧ H' = H.put kr (some (rdO b p)) ∧ n' = n := by
  cases r with
  | some x => obtain ⟨h1, h2, h3⟩ := h; cases h1; exact ⟨x.2, rfl, h2, h3⟩
  | none => cases h.1
theorem RdK.pan {torn : AV} {kr : Nat} {b : List UInt8} {H : Heap} {n : Nat} {r : Option (AV × Nat)} {v : AV} {H' : Heap} {n' : Nat} (h : RdK torn kr b H n r (.pan v) H' n') : r = none ∧ v = torn ∧ n ≤ n' ∧ ∀ k, k < n → k ≠ kr → H' k = H k := by
  cases r with
  | some x => cases h.1
  | none => obtain ⟨h1, h2⟩ := h; cases h1; exact ⟨rfl, rfl, h2⟩
theorem RdK.none {torn : AV} {kr : Nat} {b : List UInt8} {H : Heap} {n : Nat} {r : Option (AV × Nat)} {H' : Heap} {n' : Nat} (hr : r = none) (hn : n ≤ n') (h : ∀ k, k < n → k ≠ kr → H' k = H k) : RdK torn kr b H n r (.pan torn) H' n' := by subst hr; exact ⟨rfl, hn, h⟩
theorem RdK.some {torn : AV} {kr : Nat} {b : List UInt8} {H : Heap} {n : Nat} {r : Option (AV × Nat)} {v : AV} {p : Nat} {H' : Heap} {n' : Nat} (hr : r = some (v, p)) (hH : H' = H.put kr (some (rdO b p))) (hn : n' = n) : RdK torn kr b H n r (.val v) H' n' := by subst hr; exact ⟨rfl, hH, hn⟩
def rav {α : Type} (f : α → AV) (r : Option (α × Nat)) : Option (AV × Nat) := r.map fun x => (f x.1, x.2)
theorem rav_some {α : Type} {f : α → AV} {r : Option (α × Nat)} {v : AV} {p : Nat} (h : rav f r = some (v, p)) : ∃ x, r = some (x, p) ∧ v = f x := by
  cases r with
  | none => cases h
  | some y => simp only [rav, Option.map_some, Option.some.injEq, Prod.mk.injEq] at h; obtain ⟨rfl, rfl⟩ := h; exact ⟨y.1, rfl, rfl⟩
theorem rav_none {α : Type} {f : α → AV} {r : Option (α × Nat)} (h : rav f r = none) : r = none := by cases r <;> simp_all [rav]
theorem RdK.get {α : Type} {f : α → AV} {torn : AV} {kr : Nat} {b : List UInt8} {H : Heap} {n : Nat} {r : Option (α × Nat)} {v : AV} {H' : Heap} {n' : Nat} (h : RdK torn kr b H n (rav f r) (.val v) H' n') : ∃ x p, r = Option.some (x, p) ∧ v = f x ∧ H.put kr (Option.some (rdO b p)) = H' ∧ n = n' := by
  obtain ⟨p, h1, h2, h3⟩ := h.val
  obtain ⟨x, h4, h5⟩ := rav_some h1
  exact ⟨x, p, h4, h5, h2.symm, h3.symm⟩
theorem RdK.die {α : Type} {f : α → AV} {torn : AV} {kr : Nat} {b : List UInt8} {H : Heap} {n : Nat} {r : Option (α × Nat)} {v : AV} {H' : Heap} {n' : Nat} (h : RdK torn kr b H n (rav f r) (.pan v) H' n') : r = Option.none ∧ v = torn ∧ n ≤ n' ∧ ∀ k, k < n → k ≠ kr → H' k = H k :=
  let ⟨h1, h2⟩ := h.pan; ⟨rav_none h1, h2⟩
theorem rdByte_le {b : List UInt8} {p q : Nat} {x : Int} (h : rdByte b p = some (x, q)) : q ≤ b.length ∧ p < q := by
  unfold rdByte at h; split at h
  · cases h
  · simp only [Option.some.injEq, Prod.mk.injEq] at h; omega
theorem rdUint_le {b : List UInt8} {p q : Nat} {x : Int} (h : rdUint b p = some (x, q)) : q ≤ b.length ∧ p < q ∧ 0 ≤ x ∧ x ≤ 9223372036854775807 := by
  have h1 := ruB_lt b p
  unfold rdUint at h; split at h
  · cases h
  · rename_i h2
    split at h
    · cases h
    · simp only [Option.some.injEq, Prod.mk.injEq] at h
      have h3 := h1.2.1 (by omega)
      omega
theorem rbB_le {b : List UInt8} {p m : Nat} (h : (rbB b p m).2.2 = 0) : (rbB b p m).2.1 ≤ b.length ∧ p < (rbB b p m).2.1 ∧ (rbB b p m).1.length + p < (rbB b p m).2.1 := by
  have h1 := ruB_lt b p
  unfold rbB at h ⊢
  split at h
  · simp at h
  · rename_i h2
    rw [if_neg h2]
    split at h
    · rename_i h3; exact absurd h h3
    · rename_i h3
      have h4 := h1.2.1 (by simpa using h3)
      split at h
      · simp at h
      · rename_i h5
        rw [if_neg h3, if_neg h5]
        split at h
        · simp at h
        · rename_i h6
          rw [if_neg h6]
          simp only [List.length_take, List.length_drop]
          omega
theorem rdBytes_le {b : List UInt8} {p q : Nat} {x : List UInt8} (h : rdBytes b p = some (x, q)) : q ≤ b.length ∧ p < q ∧ x.length + p < q := by
  unfold rdBytes at h; split at h
  · cases h
  · rename_i h2
    have := rbB_le (b := b) (p := p) (m := b.length) (by simpa using h2)
    simp only [Option.some.injEq, Prod.mk.injEq] at h
    obtain ⟨rfl, rfl⟩ := h
    exact this
theorem rdDelta_le {b : List UInt8} {p q : Nat} {x : Int} (h : rdDelta b p = some (x, q)) : q ≤ b.length ∧ p < q := by
  unfold rdDelta at h; split at h
  · cases h
  · simp only [Option.some.injEq, Prod.mk.injEq] at h; omega
theorem rdCount_le {b : List UInt8} {p q : Nat} {x : Nat} (h : rdCount b p = some (x, q)) : q + x ≤ b.length ∧ p < q := by
  unfold rdCount at h
  cases hu : rdUint b p with
  | none => rw [hu] at h; cases h
  | some y =>
    obtain ⟨v, a⟩ := y
    have := rdUint_le hu
    rw [hu] at h
    simp only [Option.bind_some] at h
    split at h
    · cases h
    · simp only [Option.some.injEq, Prod.mk.injEq] at h; omega
end Go.Rt
namespace Go.Rt
open Go Go.Sx
theorem or64' {x m k : Nat} (hx : x < 2 ^ k) (h : x + m * 2 ^ k < 18446744073709551616) : intBits .or .u64 ((m * 2 ^ k : Nat) : Int) (x : Int) = ((m * 2 ^ k + x : Nat) : Int) := by
  have h1 := or64 hx h
  have h2 : intBits .or .u64 ((m * 2 ^ k : Nat) : Int) (x : Int) = intBits .or .u64 (x : Int) ((m * 2 ^ k : Nat) : Int) := by
    show IntKind.u64.wrap _ = IntKind.u64.wrap _
    rw [BitVec.or_comm]
  rw [h2, h1]; congr 1; omega
theorem be8_snoc (l : List UInt8) (c : UInt8) : be8 (l ++ [c]) = be8 l * 256 + c.toNat := by simp [be8, List.foldl_append]
theorem be8_lt' : ∀ (l : List UInt8) (n : Nat), l.foldl (fun n c => n * 256 + c.toNat) n < (n + 1) * 256 ^ l.length
  | [], n => by simp
  | c :: l, n => by
    have h := be8_lt' l (n * 256 + c.toNat)
    have hc := c.toNat_lt
    simp only [List.foldl_cons, List.length_cons, Nat.pow_succ]
    refine Nat.lt_of_lt_of_le h ?_
    have : n * 256 + c.toNat + 1 ≤ (n + 1) * 256 := by omega
    calc (n * 256 + c.toNat + 1) * 256 ^ l.length ≤ ((n + 1) * 256) * 256 ^ l.length := Nat.mul_le_mul_right _ this
      _ = (n + 1) * (256 ^ l.length * 256) := by rw [Nat.mul_assoc, Nat.mul_comm 256]
theorem be8_lt (l : List UInt8) : be8 l < 256 ^ l.length := by have := be8_lt' l 0; simpa [be8] using this
theorem take_snoc {α : Type} [Inhabited α] (l : List α) {i : Nat} (h : i < l.length) : l.take (i + 1) = l.take i ++ [l.getD i default] := by
  rw [List.take_succ_eq_append_getElem h]
  simp [List.getD, List.getElem?_eq_getElem h]
end Go.Rt
namespace Go.Rt
open Go Go.Sx
theorem rdMany_succ {α : Type} (rd : List UInt8 → Nat → Option (α × Nat)) (b : List UInt8) {cnt i : Nat} (h : i < cnt) (p : Nat) (acc : List α) : rdMany rd b (cnt - i) p acc = (rd b p).bind fun x => rdMany rd b (cnt - (i + 1)) x.2 (acc ++ [x.1]) := by
  rw [show cnt - i = (cnt - (i + 1)) + 1 by omega]; rfl
theorem RdK.fin {P : Program} {f : FuncId} {args : List AV} {torn : AV} {kr : Nat} {b : List UInt8} {H : Heap} {n : Nat} {r : Option (AV × Nat)} (hk : kr < n)
    (h : ACalls P f args H n fun res H1 n' => (∃ v v' q, res = .val v ∧ r = Option.some (v', q) ∧ H1 kr = Option.some (rdO b q) ∧ (∀ k, k < n → k ≠ kr → H1 k = H k) ∧ Frz H1 n v v') ∨ (r = Option.none ∧ res = .pan torn ∧ n ≤ n' ∧ ∀ k, k < n → k ≠ kr → H1 k = H k)) :
    ACalls P f args H n (RdK torn kr b H n r) :=
  ACalls.finP (h.mono fun res H1 n' hd => by
    rcases hd with ⟨v, v', q, h1, h2, h3, h4, h5⟩ | ⟨h1, h2, h3, h4⟩
    · refine .inl ⟨v, v', H.put kr (Option.some (rdO b q)), h1, fun k hk2 => ?_, fun k hk2 => Heap.put_ne _ _ (by omega), h5, RdK.some h2 rfl rfl⟩
      by_cases e : k = kr
      · subst e
        rw [Heap.put_same, h3]
        exact ⟨rfl, .inr fun o ho => by cases ho; exact ⟨⟨kls_bytes b n, trivial, trivial⟩, trivial⟩⟩
      · rw [Heap.put_ne _ _ e, h4 k hk2 e]
        exact ⟨rfl, .inl rfl⟩
    · exact .inr ⟨torn, h2, RdK.none h1 h3 h4⟩)
end Go.Rt
namespace Go.Rt
open Go Go.Sx
theorem kls_map {α : Type} (f : α → AV) {n : Nat} (h : ∀ x, (f x).kl n) : ∀ l : List α, AV.kls n (l.map f)
  | [] => trivial
  | x :: l => ⟨h x, kls_map f h l⟩
theorem kl_condAV (x : CondE) (n : Nat) : (condAV x).kl n := ⟨trivial, trivial, kls_bytes _ _, kls_bytes _ _, trivial⟩
theorem kl_opAV (x : OpE) (n : Nat) : (opAV x).kl n := ⟨trivial, trivial, kls_bytes _ _, trivial, kls_bytes _ _, trivial, trivial⟩
end Go.Rt
namespace Go.Proofs.YtifnhpmeoogedaaGreatDoor
open Go Go.Sx Go.Rt Go.Proofs
theorem c_wire_outside (b : List UInt8) (p : Nat) (H : Heap) (n : Nat) : Ret Tryz.prog 155 [bys b, .int .i64 p] H n (.bool (decide (b.length < p))) H n := by
  refine acalls_of_awp Tryz.func155 rfl Tryz.ntmps155 (congrArg Array.toList Tryz.results155) (by simp) ?_
  simp only [go_sem]
  refine awp_reg zs [0, 1] fun K hK => ?_
  try simp only [go_sem, seval]
  refine hK _ _ _ ?_; clear hK K
  refine awp_reg zs [4] fun K hK => ?_
  try simp only [go_sem, seval, List.length_map]
  repeat refine peel ?_
  refine hK _ _ _ ?_; clear hK K
  refine awp_ret ?_
  try simp only [go_sem, seval]
  have h0 : ¬ ((p : Int) < 0) := by omega
  simp [h0]
def ruAV (x : Nat × Nat × Int) : AV := .tup [.int .u64 x.1, .int .i64 x.2.1, .int .i64 x.2.2]
set_option maxHeartbeats 1600000 in
theorem c_wire_ReadUint (b : List UInt8) (p : Nat) (hb : b.length ≤ 1099511627776) (hp : p ≤ 1099511627776) (H : Heap) (n : Nat) : Ret Tryz.prog 128 [bys b, .int .i64 p] H n (ruAV (ruB b p)) H n := by
  refine acalls_of_awp Tryz.func128 rfl Tryz.ntmps128 (congrArg Array.toList Tryz.results128) (by simp) ?_
  simp only [go_sem]
  refine awp_reg zs [0, 1] fun K hK => ?_
  try simp only [go_sem, seval]
  refine hK _ _ _ ?_; clear hK K
  refine awp_seq_k fun K1 hK1 => ?_
  refine awp_reg zs [0, 1, 12] fun K hK => ?_
  try simp only [go_sem, seval]
  refine callK_use Tryz.func155 rfl rfl rfl ((c_wire_outside b p _ _)) ?_
  refine hK _ _ _ ?_; clear hK K
  refine awp_cnd (fun hb => ?_) (fun hb => ?_)
  ·skip
   have h1 : b.length < p := of_decide_eq_true hb
   have hres : ruB b p = (0, 0, 1) := by unfold ruB; rw [if_pos h1]
   refine awp_reg zs [4, 5, 6] fun K hK => ?_
   try simp only [go_sem, seval]
   refine hK _ _ _ ?_; clear hK K
   refine awp_ret ?_
   try simp only [go_sem, seval]
   first | (rw [hres]; rfl) | (rw [← hix]; rfl)
  ·skip
   have h1 : ¬ b.length < p := of_decide_eq_false hb
   have hru : ruB b p = ruL b p 10 0 := by unfold ruB; rw [if_neg h1]
   refine awp_skip ?_
   try simp only [go_sem, seval]
   refine hK1 _ _ _ ?_
   first | clear hK1 K1 | skip
   refine awp_reg zs [0, 1, 7] fun K hK => ?_
   try simp only [go_sem, seval]
   refine hK _ _ _ ?_; clear hK K
   refine awp_reg zs [0, 1, 7, 8] fun K hK => ?_
   try simp only [go_sem, seval]
   refine hK _ _ _ ?_; clear hK K
   refine awp_block ?_
   refine awp_loop (fun T' H' n' => ∃ f v : Nat, f ≤ 9 ∧ v < 2 ^ (7 * (9 - f)) ∧ T' = tl [(0, bys b), (1, .int .i64 p), (7, .int .u64 v), (8, .int .i64 (9 - f : Nat))] ∧ H' = H ∧ n' = n ∧ ruL b p (f + 1) v = ruB b p) (fun T' _ _ => 9 - iv (T' 8)) ?_ ?_
   ·skip
    exact ⟨9, 0, by omega, by simp, rfl, rfl, rfl, hru.symm⟩
   intro T1 H1 n1
   rintro ⟨f, v, hf, hv, rfl, rfl, rfl, hix⟩
   refine awp_seq_k fun K2 hK2 => ?_
   refine awp_block ?_
   refine awp_seq_k fun K3 hK3 => ?_
   have e1 : IntKind.i64.wrap ((p : Int) + ((9 - f : Nat) : Int)) = ((p + (9 - f) : Nat) : Int) := by rw [w64 (by omega) (by omega)]; omega
   unfold ruL at hix
   refine awp_reg zs [0, 1, 7, 8, 20] fun K hK => ?_
   try simp only [go_sem, seval, List.length_map, e1]
   refine hK _ _ _ ?_; clear hK K
   refine awp_cnd (fun hb => ?_) (fun hb => ?_)
   ·skip
    have hlt : b.length ≤ p + (9 - f) := by have := of_decide_eq_true hb; omega
    have hres : ruB b p = (0, 0, 10) := by rw [← hix, if_pos hlt]
    refine awp_reg zs [4, 5, 6] fun K hK => ?_
    try simp only [go_sem, seval]
    refine hK _ _ _ ?_; clear hK K
    refine awp_ret ?_
    try simp only [go_sem, seval]
    first | (rw [hres]; rfl) | (rw [← hix]; rfl)
   ·skip
    have hlt : ¬ b.length ≤ p + (9 - f) := by have := of_decide_eq_false hb; omega
    rw [if_neg hlt] at hix
    have hnth : nth (b.map byteAV) (p + (9 - f)) = byteAV (b.getD (p + (9 - f)) 0) := nth_map byteAV b _ (by omega)
    generalize b.getD (p + (9 - f)) 0 = c at *
    have hcl := c.toNat_lt
    refine awp_skip ?_
    try simp only [go_sem, seval]
    refine hK3 _ _ _ ?_
    first | clear hK3 K3 | skip
    refine awp_reg zs [0, 1, 7, 8, 9] fun K hK => ?_
    try simp only [go_sem, seval, List.length_map, e1, hnth, Int.toNat_natCast, byteAV]
    repeat refine peel ?_
    refine hK _ _ _ ?_; clear hK K
    refine awp_seq_k fun K4 hK4 => ?_
    refine awp_reg zs [0, 1, 7, 8, 9, 32] fun K hK => ?_
    try simp only [go_sem, seval]
    repeat (first | (refine And.intro ?_ ?_; · first | trivial) | refine peel ?_)
    refine hK _ _ _ ?_; clear hK K
    refine awp_cnd (fun hb => ?_) (fun hb => ?_)
    ·skip
     have h3 : (9 - f = 9) ∧ 1 < c.toNat := by cases h : decide (((9 - f : Nat) : Int) = 9) <;> simp_all <;> omega
     have hres : ruB b p = (0, 0, 13) := by rw [← hix, if_pos h3]
     refine awp_reg zs [4, 5, 6] fun K hK => ?_
     try simp only [go_sem, seval]
     refine hK _ _ _ ?_; clear hK K
     refine awp_ret ?_
     try simp only [go_sem, seval]
     first | (rw [hres]; rfl) | (rw [← hix]; rfl)
    ·skip
     have h3 : ¬ ((9 - f = 9) ∧ 1 < c.toNat) := by rintro ⟨h4, h5⟩; simp [h4] at hb; omega
     rw [if_neg h3] at hix
     refine awp_skip ?_
     try simp only [go_sem, seval]
     refine hK4 _ _ _ ?_
     first | clear hK4 K4 | skip
     have e2 : IntKind.i64.wrap (7 * ((9 - f : Nat) : Int)) = ((7 * (9 - f) : Nat) : Int) := by rw [w64 (by omega) (by omega)]; omega
     have e3 : IntKind.u64.wrap ((c.toNat % 128 : Nat) : Int) = ((c.toNat % 128 : Nat) : Int) := by rw [IntKind.wrap_u64]; omega
     have hm : c.toNat % 128 * 2 ^ (7 * (9 - f)) ≤ 127 * 2 ^ 56 ∨ c.toNat % 128 * 2 ^ (7 * (9 - f)) ≤ 1 * 2 ^ 63 := by
       rcases Nat.lt_or_ge 0 f with h0 | h0
       · exact .inl (Nat.mul_le_mul (by omega) (Nat.pow_le_pow_right (by omega) (by omega)))
       · exact .inr (Nat.mul_le_mul (by omega) (Nat.pow_le_pow_right (by omega) (by omega)))
     have hv2 : v < 9223372036854775808 := Nat.lt_of_lt_of_le hv (Nat.pow_le_pow_right (by omega) (show 7 * (9 - f) ≤ 63 by omega))
     have e4 : IntKind.u64.wrap (((c.toNat % 128 : Nat) : Int) * 2 ^ (min (7 * (9 - f)) 64)) = ((c.toNat % 128 * 2 ^ (7 * (9 - f)) : Nat) : Int) := by
       rw [show min (7 * (9 - f)) 64 = 7 * (9 - f) by omega, IntKind.wrap_u64]
       have : ((c.toNat % 128 : Nat) : Int) * 2 ^ (7 * (9 - f)) = ((c.toNat % 128 * 2 ^ (7 * (9 - f)) : Nat) : Int) := by simp
       rw [this]; omega
     have e5 := or64 (x := v) (m := c.toNat % 128) (k := 7 * (9 - f)) hv (by omega)
     refine awp_reg zs [0, 1, 7, 8, 9] fun K hK => ?_
     try simp only [go_sem, seval, and127, e2, e3, e4, e5, Int.toNat_natCast]
     repeat refine peel ?_
     refine hK _ _ _ ?_; clear hK K
     refine awp_reg zs [0, 1, 7, 8, 9, 42] fun K hK => ?_
     try simp only [go_sem, seval]
     refine hK _ _ _ ?_; clear hK K
     refine awp_cnd (fun hb => ?_) (fun hb => ?_)
     ·skip
      have h4 : c.toNat < 128 := by have := of_decide_eq_true hb; omega
      rw [if_pos h4] at hix
      refine awp_seq_k fun K5 hK5 => ?_
      refine awp_reg zs [1, 7, 8, 48] fun K hK => ?_
      try simp only [go_sem, seval]
      repeat refine peel ?_
      refine hK _ _ _ ?_; clear hK K
      refine awp_cnd (fun hb => ?_) (fun hb => ?_)
      ·skip
       have h5 : c.toNat = 0 ∧ 0 < 9 - f := by cases h : decide ((c.toNat : Int) = 0) <;> simp_all <;> omega
       have hres : ruB b p = (0, 0, 11) := by rw [← hix, if_pos h5]
       refine awp_reg zs [4, 5, 6] fun K hK => ?_
       try simp only [go_sem, seval]
       refine hK _ _ _ ?_; clear hK K
       refine awp_ret ?_
       try simp only [go_sem, seval]
       first | (rw [hres]; rfl) | (rw [← hix]; rfl)
      ·skip
       have h5 : ¬ (c.toNat = 0 ∧ 0 < 9 - f) := by rintro ⟨h6, h7⟩; simp [h6] at hb; omega
       rw [if_neg h5] at hix
       have e6 : IntKind.i64.wrap (((p + (9 - f) : Nat) : Int) + 1) = ((p + (9 - f) + 1 : Nat) : Int) := by rw [w64 (by omega) (by omega)]; omega
       refine awp_skip ?_
       try simp only [go_sem, seval]
       refine hK5 _ _ _ ?_
       first | clear hK5 K5 | skip
       refine awp_reg zs [4, 5, 6] fun K hK => ?_
       try simp only [go_sem, seval, e1, e6]
       refine hK _ _ _ ?_; clear hK K
       refine awp_ret ?_
       try simp only [go_sem, seval]
       first | (rw [hres]; rfl) | (rw [← hix]; rfl)
     ·skip
      have h4 : ¬ c.toNat < 128 := by have := of_decide_eq_false hb; omega
      rw [if_neg h4] at hix
      have hf0 : 0 < f := Nat.pos_of_ne_zero fun h0 => h3 ⟨by omega, by omega⟩
      obtain ⟨g, rfl⟩ : ∃ g, f = g + 1 := ⟨f - 1, by omega⟩
      have e8 : 9 - (g + 1) = 8 - g := by omega
      rw [e8] at hix hv
      have e7 : IntKind.i64.wrap (((8 - g : Nat) : Int) + 1) = ((9 - g : Nat) : Int) := by rw [w64 (by omega) (by omega)]; omega
      refine awp_skip ?_
      try simp only [go_sem, seval]
      refine hK2 _ _ _ ?_
      first | clear hK2 K2 | skip
      refine awp_reg1 zs [0, 1, 7, 8] fun K hK => ?_
      try simp only [go_sem, seval, e7]
      refine hK _ _ _ ?_; clear hK K
      try simp only [go_sem, seval]
      refine ⟨⟨g, v + c.toNat % 128 * 2 ^ (7 * (8 - g)), by omega, ?_, rfl, hix⟩, by simp [iv]; omega⟩
      have h6 : 7 * (9 - g) = 7 * (8 - g) + 7 := by omega
      rw [h6, Nat.pow_add]
      have h7 : c.toNat % 128 * 2 ^ (7 * (8 - g)) ≤ 127 * 2 ^ (7 * (8 - g)) := Nat.mul_le_mul_right _ (by omega)
      omega
theorem c_bytes_Clone1 (x : UInt8) (b : List UInt8) (hb9 : b.length ≤ 1099511627776) (H : Heap) (n : Nat) : Ret Tryz.prog 156 [bys (x :: b)] H n (bys (x :: b)) H n := by
  refine Ret.fin ?_
  refine acalls_of_awp Tryz.func156 rfl Tryz.ntmps156 (congrArg Array.toList Tryz.results156) (by simp) ?_
  simp only [go_sem]
  refine awp_reg zs [0] fun K hK => ?_
  try simp only [go_sem, seval]
  refine hK _ _ _ ?_; clear hK K
  refine awp_seq_k fun K1 hK1 => ?_
  refine awp_reg zs [0, 4] fun K hK => ?_
  try simp only [go_sem, seval, List.length_map, List.length_cons]
  repeat (first | (refine And.intro ?_ ?_; · first | exact ⟨trivial, by omega⟩ | omega) | refine peel ?_)
  refine hK _ _ _ ?_; clear hK K
  refine awp_cnd (fun hb => ?_) (fun hb => ?_)
  ·skip
   exact absurd hb (by simp)
   --dead
  ·skip
   refine awp_skip ?_
   try simp only [go_sem, seval]
   refine hK1 _ _ _ ?_
   first | clear hK1 K1 | skip
   refine awp_reg zo [2] fun K hK => ?_
   try simp only [go_sem, seval, List.length_map, List.length_cons]
   repeat (first | (refine And.intro ?_ ?_; · first | exact ⟨by omega, by omega⟩ | (simp; omega)) | refine peel ?_)
   refine hK _ _ _ ?_; clear hK K
   refine awp_ret ?_
   try simp only [go_sem, seval]
   refine ⟨_, rfl, fun k hk => ?_, .osl (by simp [Heap.put]; rfl) (Nat.le_refl _) (by simp) (by rw [List.drop_zero, List.take_of_length_le (by simp)]; exact frzL_kl _ (kls0_bytes (x :: b) n))⟩
   have h0 : k ≠ n := by omega
   simp [Heap.put, h0]
theorem c_bytes_Clone0 (H : Heap) (n : Nat) : Ret Tryz.prog 156 [bys []] H n (bys []) H n := by
  refine Ret.fin ?_
  refine acalls_of_awp Tryz.func156 rfl Tryz.ntmps156 (congrArg Array.toList Tryz.results156) (by simp) ?_
  simp only [go_sem]
  refine awp_raw_sl 0 rfl fun ad cap => ?_
  simp only [go_sem]
  refine awp_rq zs [0] ?_
  refine awp_seq_k fun K1 hK1 => ?_
  refine awp_rq zs [0, 4] ?_
  refine awp_cnd (fun hb => ?_) (fun hb => ?_)
  ·skip
   refine awp_rq zs [2] ?_
   refine awp_ret ?_
   try simp only [go_sem, seval]
   first | exact ⟨_, rfl, .nilsl⟩ | exact ⟨_, rfl, fun k hk => rfl, .nilsl⟩ | skip
   all_goals (refine ⟨_, rfl, fun k hk => ?_, .osl (els := []) (by simp [Heap.put]; first | rfl | done) (Nat.le_refl _) (by simp) .nil⟩; have h0 : k ≠ n := (by omega); simp [Heap.put, h0])
  ·skip
   refine awp_skip ?_
   try simp only [go_sem, seval]
   refine hK1 _ _ _ ?_
   first | clear hK1 K1 | skip
   refine awp_wk_tmp 0 (.sl 1 []) (Wk.raw_sl ad cap 1) ?_
   simp only [go_sem]
   refine awp_reg zo [2] fun K hK => ?_
   try simp only [go_sem, seval, List.map_nil, List.length_nil]
   repeat refine peel ?_
   refine hK _ _ _ ?_; clear hK K
   refine awp_ret ?_
   try simp only [go_sem, seval]
   first | exact ⟨_, rfl, .nilsl⟩ | exact ⟨_, rfl, fun k hk => rfl, .nilsl⟩ | skip
   all_goals (refine ⟨_, rfl, fun k hk => ?_, .osl (els := []) (by simp [Heap.put]; first | rfl | done) (Nat.le_refl _) (by simp) .nil⟩; have h0 : k ≠ n := (by omega); simp [Heap.put, h0])
theorem c_bytes_Clone (b : List UInt8) (hb : b.length ≤ 1099511627776) (H : Heap) (n : Nat) : Ret Tryz.prog 156 [bys b] H n (bys b) H n := by
  cases b with
  | nil => exact c_bytes_Clone0 H n
  | cons x b => exact c_bytes_Clone1 x b (by simp at hb; omega) H n
def rbAV (x : List UInt8 × Nat × Int) : AV := .tup [bys x.1, .int .i64 x.2.1, .int .i64 x.2.2]
set_option maxHeartbeats 1600000 in
theorem c_wire_ReadBytes (b : List UInt8) (p most : Nat) (hb9 : b.length ≤ 1099511627776) (hp : p ≤ 1099511627776) (hm : most ≤ 1099511627776) (H : Heap) (n : Nat) : Ret Tryz.prog 130 [bys b, .int .i64 p, .int .i64 most] H n (rbAV (rbB b p most)) H n := by
  obtain ⟨hu1, hu2, hu3⟩ := ruB_lt b p
  have hum : u64 (most : Int) = most := u64_nat _ (by omega)
  refine Ret.fin ?_
  refine acalls_of_awp Tryz.func130 rfl Tryz.ntmps130 (congrArg Array.toList Tryz.results130) (by simp) ?_
  simp only [go_sem]
  refine awp_reg zs [0, 1, 2] fun K hK => ?_
  try simp only [go_sem, seval]
  refine hK _ _ _ ?_; clear hK K
  refine awp_seq_k fun K1 hK1 => ?_
  refine awp_reg zs [0, 1, 2, 18] fun K hK => ?_
  try simp only [go_sem, seval]
  repeat (first | (refine And.intro ?_ ?_; · first | trivial) | refine peel ?_)
  refine callK_use Tryz.func155 rfl rfl rfl ((c_wire_outside b p _ _)) ?_
  try simp only [go_sem, seval]
  repeat (first | (refine And.intro ?_ ?_; · first | trivial) | refine peel ?_)
  refine hK _ _ _ ?_; clear hK K
  refine awp_cnd (fun hb => ?_) (fun hb => ?_)
  ·skip
   have h1 : b.length < p := by have h0 : ¬ ((most : Int) < 0) := (by omega); simp [h0] at hb; exact hb
   have hres : rbB b p most = ([], 0, 1) := by unfold rbB; rw [if_pos h1]
   refine awp_reg zs [6, 7, 8] fun K hK => ?_
   try simp only [go_sem, seval]
   refine hK _ _ _ ?_; clear hK K
   refine awp_ret ?_
   try simp only [go_sem, seval]
   refine ⟨_, rfl, ?_⟩
   rw [hres]
   first | exact .tup (.cons .nilsl (.cons (.kl trivial) (.cons (.kl trivial) .nil))) | exact .kl ⟨kl_bys _ _, trivial, trivial, trivial⟩
  ·skip
   have h1 : ¬ b.length < p := by have h0 : ¬ ((most : Int) < 0) := (by omega); simp [h0] at hb; omega
   refine awp_skip ?_
   try simp only [go_sem, seval]
   refine hK1 _ _ _ ?_
   first | clear hK1 K1 | skip
   refine awp_reg zs [0, 1, 2, 9, 10] fun K hK => ?_
   try simp only [go_sem, seval]
   refine callK_use Tryz.func128 rfl rfl rfl ((c_wire_ReadUint b p hb9 hp _ _)) ?_
   try simp only [go_sem, seval, ruAV]
   refine hK _ _ _ ?_; clear hK K
   refine awp_seq_k fun K2 hK2 => ?_
   refine awp_block ?_
   refine awp_reg zs [0, 1, 2, 9, 10, 26] fun K hK => ?_
   try simp only [go_sem, seval]
   refine hK _ _ _ ?_; clear hK K
   refine awp_cnd (fun hb => ?_) (fun hb => ?_)
   ·skip
    have h2 : (ruB b p).2.2 ≠ 0 := by simpa using hb
    have hres : rbB b p most = ([], 0, (ruB b p).2.2) := by unfold rbB; rw [if_neg h1, if_pos h2]
    refine awp_reg zs [6, 7, 8] fun K hK => ?_
    try simp only [go_sem, seval]
    refine hK _ _ _ ?_; clear hK K
    refine awp_ret ?_
    try simp only [go_sem, seval]
    refine ⟨_, rfl, ?_⟩
    rw [hres]
    first | exact .tup (.cons .nilsl (.cons (.kl trivial) (.cons (.kl trivial) .nil))) | exact .kl ⟨kl_bys _ _, trivial, trivial, trivial⟩
   ·skip
    have h2 : (ruB b p).2.2 = 0 := by simpa using hb
    have hu4 := hu2 h2
    refine awp_reg zs [0, 1, 9, 30] fun K hK => ?_
    try simp only [go_sem, seval, u64_wrap, hum]
    refine hK _ _ _ ?_; clear hK K
    refine awp_cnd (fun hb => ?_) (fun hb => ?_)
    ·skip
     have h3 : most < (ruB b p).1 := by have := of_decide_eq_true hb; omega
     have hres : rbB b p most = ([], 0, 13) := by unfold rbB; rw [if_neg h1, if_neg (by simp [h2]), if_pos h3]
     refine awp_reg zs [6, 7, 8] fun K hK => ?_
     try simp only [go_sem, seval]
     refine hK _ _ _ ?_; clear hK K
     refine awp_ret ?_
     try simp only [go_sem, seval]
     refine ⟨_, rfl, ?_⟩
     rw [hres]
     first | exact .tup (.cons .nilsl (.cons (.kl trivial) (.cons (.kl trivial) .nil))) | exact .kl ⟨kl_bys _ _, trivial, trivial, trivial⟩
    ·skip
     have h3 : ¬ most < (ruB b p).1 := by have := of_decide_eq_false hb; omega
     have e1 : IntKind.i64.wrap ((b.length : Int) - ((ruB b p).2.1 : Int)) = ((b.length - (ruB b p).2.1 : Nat) : Int) := by rw [w64 (by omega) (by omega)]; omega
     have e2 : u64 ((b.length - (ruB b p).2.1 : Nat) : Int) = b.length - (ruB b p).2.1 := u64_nat _ (by omega)
     refine awp_reg zs [0, 1, 9, 35] fun K hK => ?_
     try simp only [go_sem, seval, List.length_map, u64_wrap, e1, e2]
     refine hK _ _ _ ?_; clear hK K
     refine awp_cnd (fun hb => ?_) (fun hb => ?_)
     ·skip
      have h4 : b.length - (ruB b p).2.1 < (ruB b p).1 := by have := of_decide_eq_true hb; omega
      have hres : rbB b p most = ([], 0, 10) := by unfold rbB; rw [if_neg h1, if_neg (by simp [h2]), if_neg h3, if_pos h4]
      refine awp_reg zs [6, 7, 8] fun K hK => ?_
      try simp only [go_sem, seval]
      refine hK _ _ _ ?_; clear hK K
      refine awp_ret ?_
      try simp only [go_sem, seval]
      refine ⟨_, rfl, ?_⟩
      rw [hres]
      first | exact .tup (.cons .nilsl (.cons (.kl trivial) (.cons (.kl trivial) .nil))) | exact .kl ⟨kl_bys _ _, trivial, trivial, trivial⟩
     ·skip
      have h4 : ¬ b.length - (ruB b p).2.1 < (ruB b p).1 := by have := of_decide_eq_false hb; omega
      have hres : rbB b p most = ((b.drop (ruB b p).2.1).take (ruB b p).1, (ruB b p).2.1 + (ruB b p).1, 0) := by unfold rbB; rw [if_neg h1, if_neg (by simp [h2]), if_neg h3, if_neg h4]
      have e3 : IntKind.i64.wrap ((ruB b p).1 : Int) = ((ruB b p).1 : Int) := w64 (by omega) (by omega)
      have e4 : IntKind.i64.wrap (((ruB b p).2.1 : Int) + ((ruB b p).1 : Int)) = (((ruB b p).2.1 + (ruB b p).1 : Nat) : Int) := by rw [w64 (by omega) (by omega)]; omega
      have e5 : List.drop (ruB b p).2.1 (List.take ((ruB b p).2.1 + (ruB b p).1) (b.map byteAV)) = ((b.drop (ruB b p).2.1).take (ruB b p).1).map byteAV := by rw [List.take_add, List.drop_append_of_le_length (by simp; omega), List.drop_take_self, List.nil_append, ← List.map_drop, ← List.map_take]
      refine awp_skip ?_
      try simp only [go_sem, seval]
      refine hK2 _ _ _ ?_
      first | clear hK2 K2 | skip
      refine awp_reg zs [0, 1, 11] fun K hK => ?_
      try simp only [go_sem, seval, e3, e4]
      refine hK _ _ _ ?_; clear hK K
      refine awp_reg zs [6, 7, 8] fun K hK => ?_
      try simp only [go_sem, seval, List.length_map, e5, Option.getD_some, Int.toNat_natCast]
      repeat (first | (refine And.intro ?_ ?_; · first | exact ⟨by omega, by omega, by omega, fun m h => h.elim⟩) | refine peel ?_)
      refine callK_use Tryz.func156 rfl rfl rfl ((c_bytes_Clone ((b.drop (ruB b p).2.1).take (ruB b p).1) (by simp; omega) _ _)) ?_
      try simp only [go_sem, seval]
      repeat (first | (refine And.intro ?_ ?_; · first | exact ⟨by omega, by omega, by omega, fun m h => h.elim⟩) | refine peel ?_)
      refine hK _ _ _ ?_; clear hK K
      refine awp_ret ?_
      try simp only [go_sem, seval]
      refine ⟨_, rfl, ?_⟩
      rw [hres]
      first | exact .tup (.cons .nilsl (.cons (.kl trivial) (.cons (.kl trivial) .nil))) | exact .kl ⟨kl_bys _ _, trivial, trivial, trivial⟩
end Go.Proofs.YtifnhpmeoogedaaGreatDoor