/-
  NARROWER THAN 'FOR EVERY INPUT', by the rows' own cells (each row's printed sentence says how): OrderWrites: laid · OrderReads: laid · OrderSame: laid · OrderBack: laid · OrderCuts: laid · OrderReplies: laid · OrderLong: laid · OrderAgain: laid · OrderLent: laid.
  DERIVED. THE GIVEN ROWS OF THIS SEAT. 9 by the template 'for every input the law returns true; each argument reads behind the call as it read before'; 0 by the template 'total and deterministic' (their statements: YtifnhpmeoogedaaGreatDoorTotals.lean).
  GIVEN WITH THE SEED: the statements are not yours to turn. If you find one false, say at which input.
  Laid BY PROGRAM, IN A SANDBOX (cutbox-rows.mjs): the forced cells as the released guide's own fill.sh prints them over the translation dfcb8349ebf2a6e5… (all of the seat's roots in one cut). By AI agents, Wed Nov 11 2026. No macro, syntax, notation, axiom, sorry.
-/
import Derived.Test.YtifnhpmeoogedaaGreatDoorChecked
import GoSem.Claim
import GoSem.ClaimJoined
import GoSem.ClaimMapViews
import Derived.JoinedTies
import Derived.KernelRfl
namespace Go.Proofs.YtifnhpmeoogedaaGreatDoor
/- THE CELL 'sum', in the pinned program and in every row, IS THE sha256 OF THE DUMP (.gsa) THAT YtifnhpmeoogedaaGreatDoorProg.lean LOADS. Nothing in Lean hashes anything: it is a label: what it is worth is what the hold of that sum in a sandbox is worth. -/
noncomputable def Tryz.pinned : Pinned := { name := "ytifnhpmeoogedaagreatdoor", sum := "dfcb8349ebf2a6e52240306081b87f9ae45fd81ee6fc963099664a1b4bd167b1", checked := Tryz.checked }
namespace Rows
def none {H : Type} : Left H := { results := [], args := [] }

/- WHAT THE LISTED PACKAGE-LEVEL VARIABLES READ AS WHEN THE CALL BEGINS. Each datum BY PROGRAM (the guide's laid-datum.mjs) off the statement by which the dump's own 'gosem.cut.vars' lays the variable. In a bare row this is a premise. The card (YtifnhpmeoogedaaGreatDoorCards.lean) ties it to the program's text. -/
def laid_strata_wire_table {H : Type} : DataW H := .agg [.lit (.int .u32 0), .lit (.int .u32 274646895), .lit (.int .u32 549293790), .lit (.int .u32 820201905), .lit (.int .u32 1098587580), .lit (.int .u32 1361435347), .lit (.int .u32 1640403810), .lit (.int .u32 1905808397), .lit (.int .u32 2197175160), .lit (.int .u32 2460548119), .lit (.int .u32 2722870694), .lit (.int .u32 2987750089), .lit (.int .u32 3280807620), .lit (.int .u32 3553878443), .lit (.int .u32 3811616794), .lit (.int .u32 4084100981)]
def laid_strata_order_kinds {H : Type} : DataW H := .agg [.agg [.lit (.bool false), .lit (.bool false), .lit (.bool false), .lit (.int .i64 0), .lit (.bool false)], .agg [.lit (.bool false), .lit (.bool false), .lit (.bool false), .lit (.int .i64 (-1)), .lit (.bool false)], .agg [.lit (.bool false), .lit (.bool false), .lit (.bool false), .lit (.int .i64 (-1)), .lit (.bool false)], .agg [.lit (.bool true), .lit (.bool false), .lit (.bool false), .lit (.int .i64 (-1)), .lit (.bool false)], .agg [.lit (.bool false), .lit (.bool true), .lit (.bool true), .lit (.int .i64 (-1)), .lit (.bool false)], .agg [.lit (.bool false), .lit (.bool true), .lit (.bool false), .lit (.int .i64 1), .lit (.bool false)], .agg [.lit (.bool false), .lit (.bool true), .lit (.bool false), .lit (.int .i64 0), .lit (.bool false)], .agg [.lit (.bool false), .lit (.bool true), .lit (.bool false), .lit (.int .i64 (-1)), .lit (.bool true)]]

/-- 'stratalaw14.OrderWrites': WHATEVER THE INPUT: true; the input reads as it did. -/
def orderWritesSpec : ChangeSpec := { name := "orderWrites", fn := fun _ => fun
  | [d1, d2] => { results := [.lit (.bool true)], args := [d1, d2] }
  | _ => none }
def orderWritesRow : OpenClaim := { program := "ytifnhpmeoogedaagreatdoor", sum := "dfcb8349ebf2a6e52240306081b87f9ae45fd81ee6fc963099664a1b4bd167b1", func := "strata/stratalaw14.OrderWrites", spec := "orderWrites", inPlace := ["internal/bytealg.Compare", "internal/bytealg.IndexByteString"], unfollowed := true, recurses := true, named := ["strata/order.kinds", "strata/wire.table"], apart := false, laid := [("strata/wire.table", laid_strata_wire_table), ("strata/order.kinds", laid_strata_order_kinds)] }
def OrderWritesSaid : Prop := orderWritesRow.holds Tryz.pinned (OpenSpec.ofChange orderWritesSpec)

/-- ITS FALSE NEIGHBOUR: 'it returns false'. Refute it at one input. -/
def orderWritesWrong : ChangeSpec := { name := "orderWrites", fn := fun _ => fun
  | [d1, d2] => { results := [.lit (.bool false)], args := [d1, d2] }
  | _ => none }
def OrderWritesWrongFalsely : Prop := orderWritesRow.holds Tryz.pinned (OpenSpec.ofChange orderWritesWrong)

/-- 'stratalaw14.OrderReads': WHATEVER THE INPUT: true; the input reads as it did. -/
def orderReadsSpec : ChangeSpec := { name := "orderReads", fn := fun _ => fun
  | [d1, d2] => { results := [.lit (.bool true)], args := [d1, d2] }
  | _ => none }
def orderReadsRow : OpenClaim := { program := "ytifnhpmeoogedaagreatdoor", sum := "dfcb8349ebf2a6e52240306081b87f9ae45fd81ee6fc963099664a1b4bd167b1", func := "strata/stratalaw14.OrderReads", spec := "orderReads", inPlace := ["internal/bytealg.Compare", "internal/bytealg.IndexByteString"], unfollowed := true, recurses := true, named := ["strata/order.kinds", "strata/wire.table"], apart := false, laid := [("strata/wire.table", laid_strata_wire_table), ("strata/order.kinds", laid_strata_order_kinds)] }
def OrderReadsSaid : Prop := orderReadsRow.holds Tryz.pinned (OpenSpec.ofChange orderReadsSpec)

/-- ITS FALSE NEIGHBOUR: 'it returns false'. Refute it at one input. -/
def orderReadsWrong : ChangeSpec := { name := "orderReads", fn := fun _ => fun
  | [d1, d2] => { results := [.lit (.bool false)], args := [d1, d2] }
  | _ => none }
def OrderReadsWrongFalsely : Prop := orderReadsRow.holds Tryz.pinned (OpenSpec.ofChange orderReadsWrong)

/-- 'stratalaw14.OrderSame': WHATEVER THE INPUT: true; the input reads as it did. -/
def orderSameSpec : ChangeSpec := { name := "orderSame", fn := fun _ => fun
  | [d1, d2, d3] => { results := [.lit (.bool true)], args := [d1, d2, d3] }
  | _ => none }
def orderSameRow : OpenClaim := { program := "ytifnhpmeoogedaagreatdoor", sum := "dfcb8349ebf2a6e52240306081b87f9ae45fd81ee6fc963099664a1b4bd167b1", func := "strata/stratalaw14.OrderSame", spec := "orderSame", inPlace := ["internal/bytealg.Compare", "internal/bytealg.IndexByteString"], unfollowed := true, recurses := true, named := ["strata/order.kinds", "strata/wire.table"], apart := false, laid := [("strata/wire.table", laid_strata_wire_table), ("strata/order.kinds", laid_strata_order_kinds)] }
def OrderSameSaid : Prop := orderSameRow.holds Tryz.pinned (OpenSpec.ofChange orderSameSpec)

/-- ITS FALSE NEIGHBOUR: 'it returns false'. Refute it at one input. -/
def orderSameWrong : ChangeSpec := { name := "orderSame", fn := fun _ => fun
  | [d1, d2, d3] => { results := [.lit (.bool false)], args := [d1, d2, d3] }
  | _ => none }
def OrderSameWrongFalsely : Prop := orderSameRow.holds Tryz.pinned (OpenSpec.ofChange orderSameWrong)

/-- 'stratalaw14.OrderBack': WHATEVER THE INPUT: true; the input reads as it did. -/
def orderBackSpec : ChangeSpec := { name := "orderBack", fn := fun _ => fun
  | [d1, d2, d3, d4] => { results := [.lit (.bool true)], args := [d1, d2, d3, d4] }
  | _ => none }
def orderBackRow : OpenClaim := { program := "ytifnhpmeoogedaagreatdoor", sum := "dfcb8349ebf2a6e52240306081b87f9ae45fd81ee6fc963099664a1b4bd167b1", func := "strata/stratalaw14.OrderBack", spec := "orderBack", inPlace := ["internal/bytealg.Compare", "internal/bytealg.IndexByteString"], unfollowed := true, recurses := true, named := ["strata/order.kinds", "strata/wire.table"], apart := false, laid := [("strata/wire.table", laid_strata_wire_table), ("strata/order.kinds", laid_strata_order_kinds)] }
def OrderBackSaid : Prop := orderBackRow.holds Tryz.pinned (OpenSpec.ofChange orderBackSpec)

/-- ITS FALSE NEIGHBOUR: 'it returns false'. Refute it at one input. -/
def orderBackWrong : ChangeSpec := { name := "orderBack", fn := fun _ => fun
  | [d1, d2, d3, d4] => { results := [.lit (.bool false)], args := [d1, d2, d3, d4] }
  | _ => none }
def OrderBackWrongFalsely : Prop := orderBackRow.holds Tryz.pinned (OpenSpec.ofChange orderBackWrong)

/-- 'stratalaw14.OrderCuts': WHATEVER THE INPUT: true; the input reads as it did. -/
def orderCutsSpec : ChangeSpec := { name := "orderCuts", fn := fun _ => fun
  | [d1, d2, d3, d4, d5] => { results := [.lit (.bool true)], args := [d1, d2, d3, d4, d5] }
  | _ => none }
def orderCutsRow : OpenClaim := { program := "ytifnhpmeoogedaagreatdoor", sum := "dfcb8349ebf2a6e52240306081b87f9ae45fd81ee6fc963099664a1b4bd167b1", func := "strata/stratalaw14.OrderCuts", spec := "orderCuts", inPlace := ["internal/bytealg.Compare", "internal/bytealg.IndexByteString"], unfollowed := true, recurses := true, named := ["strata/order.kinds", "strata/wire.table"], apart := false, laid := [("strata/wire.table", laid_strata_wire_table), ("strata/order.kinds", laid_strata_order_kinds)] }
def OrderCutsSaid : Prop := orderCutsRow.holds Tryz.pinned (OpenSpec.ofChange orderCutsSpec)

/-- ITS FALSE NEIGHBOUR: 'it returns false'. Refute it at one input. -/
def orderCutsWrong : ChangeSpec := { name := "orderCuts", fn := fun _ => fun
  | [d1, d2, d3, d4, d5] => { results := [.lit (.bool false)], args := [d1, d2, d3, d4, d5] }
  | _ => none }
def OrderCutsWrongFalsely : Prop := orderCutsRow.holds Tryz.pinned (OpenSpec.ofChange orderCutsWrong)

/-- 'stratalaw14.OrderReplies': WHATEVER THE INPUT: true; the input reads as it did. -/
def orderRepliesSpec : ChangeSpec := { name := "orderReplies", fn := fun _ => fun
  | [d1, d2] => { results := [.lit (.bool true)], args := [d1, d2] }
  | _ => none }
def orderRepliesRow : OpenClaim := { program := "ytifnhpmeoogedaagreatdoor", sum := "dfcb8349ebf2a6e52240306081b87f9ae45fd81ee6fc963099664a1b4bd167b1", func := "strata/stratalaw14.OrderReplies", spec := "orderReplies", inPlace := ["internal/bytealg.Compare", "internal/bytealg.IndexByteString"], unfollowed := true, recurses := true, named := ["strata/order.kinds", "strata/wire.table"], apart := false, laid := [("strata/wire.table", laid_strata_wire_table), ("strata/order.kinds", laid_strata_order_kinds)] }
def OrderRepliesSaid : Prop := orderRepliesRow.holds Tryz.pinned (OpenSpec.ofChange orderRepliesSpec)

/-- ITS FALSE NEIGHBOUR: 'it returns false'. Refute it at one input. -/
def orderRepliesWrong : ChangeSpec := { name := "orderReplies", fn := fun _ => fun
  | [d1, d2] => { results := [.lit (.bool false)], args := [d1, d2] }
  | _ => none }
def OrderRepliesWrongFalsely : Prop := orderRepliesRow.holds Tryz.pinned (OpenSpec.ofChange orderRepliesWrong)

/-- 'stratalaw14.OrderLong': WHATEVER THE INPUT: true; the input reads as it did. -/
def orderLongSpec : ChangeSpec := { name := "orderLong", fn := fun _ => fun
  | [d1, d2, d3] => { results := [.lit (.bool true)], args := [d1, d2, d3] }
  | _ => none }
def orderLongRow : OpenClaim := { program := "ytifnhpmeoogedaagreatdoor", sum := "dfcb8349ebf2a6e52240306081b87f9ae45fd81ee6fc963099664a1b4bd167b1", func := "strata/stratalaw14.OrderLong", spec := "orderLong", inPlace := ["internal/bytealg.Compare", "internal/bytealg.IndexByteString"], unfollowed := true, recurses := true, named := ["strata/order.kinds", "strata/wire.table"], apart := false, laid := [("strata/wire.table", laid_strata_wire_table), ("strata/order.kinds", laid_strata_order_kinds)] }
def OrderLongSaid : Prop := orderLongRow.holds Tryz.pinned (OpenSpec.ofChange orderLongSpec)

/-- ITS FALSE NEIGHBOUR: 'it returns false'. Refute it at one input. -/
def orderLongWrong : ChangeSpec := { name := "orderLong", fn := fun _ => fun
  | [d1, d2, d3] => { results := [.lit (.bool false)], args := [d1, d2, d3] }
  | _ => none }
def OrderLongWrongFalsely : Prop := orderLongRow.holds Tryz.pinned (OpenSpec.ofChange orderLongWrong)

/-- 'stratalaw14.OrderAgain': WHATEVER THE INPUT: true; the input reads as it did. -/
def orderAgainSpec : ChangeSpec := { name := "orderAgain", fn := fun _ => fun
  | [d1, d2, d3, d4, d5] => { results := [.lit (.bool true)], args := [d1, d2, d3, d4, d5] }
  | _ => none }
def orderAgainRow : OpenClaim := { program := "ytifnhpmeoogedaagreatdoor", sum := "dfcb8349ebf2a6e52240306081b87f9ae45fd81ee6fc963099664a1b4bd167b1", func := "strata/stratalaw14.OrderAgain", spec := "orderAgain", inPlace := ["internal/bytealg.Compare", "internal/bytealg.IndexByteString"], unfollowed := true, recurses := true, named := ["strata/order.kinds", "strata/wire.table"], apart := false, laid := [("strata/wire.table", laid_strata_wire_table), ("strata/order.kinds", laid_strata_order_kinds)] }
def OrderAgainSaid : Prop := orderAgainRow.holds Tryz.pinned (OpenSpec.ofChange orderAgainSpec)

/-- ITS FALSE NEIGHBOUR: 'it returns false'. Refute it at one input. -/
def orderAgainWrong : ChangeSpec := { name := "orderAgain", fn := fun _ => fun
  | [d1, d2, d3, d4, d5] => { results := [.lit (.bool false)], args := [d1, d2, d3, d4, d5] }
  | _ => none }
def OrderAgainWrongFalsely : Prop := orderAgainRow.holds Tryz.pinned (OpenSpec.ofChange orderAgainWrong)

/-- 'stratalaw14.OrderLent': WHATEVER THE INPUT: true; the input reads as it did. -/
def orderLentSpec : ChangeSpec := { name := "orderLent", fn := fun _ => fun
  | [d1, d2, d3] => { results := [.lit (.bool true)], args := [d1, d2, d3] }
  | _ => none }
def orderLentRow : OpenClaim := { program := "ytifnhpmeoogedaagreatdoor", sum := "dfcb8349ebf2a6e52240306081b87f9ae45fd81ee6fc963099664a1b4bd167b1", func := "strata/stratalaw14.OrderLent", spec := "orderLent", inPlace := ["internal/bytealg.Compare", "internal/bytealg.IndexByteString"], unfollowed := true, recurses := true, named := ["strata/order.kinds", "strata/wire.table"], apart := false, laid := [("strata/wire.table", laid_strata_wire_table), ("strata/order.kinds", laid_strata_order_kinds)] }
def OrderLentSaid : Prop := orderLentRow.holds Tryz.pinned (OpenSpec.ofChange orderLentSpec)

/-- ITS FALSE NEIGHBOUR: 'it returns false'. Refute it at one input. -/
def orderLentWrong : ChangeSpec := { name := "orderLent", fn := fun _ => fun
  | [d1, d2, d3] => { results := [.lit (.bool false)], args := [d1, d2, d3] }
  | _ => none }
def OrderLentWrongFalsely : Prop := orderLentRow.holds Tryz.pinned (OpenSpec.ofChange orderLentWrong)

/- THE SECOND FORM. 'bulk': how many values and letters a reading holds, each counted each time it is reached (what is shared counts as often as it is met; a slice's spare places count too). A statement '..UptoSaid' is the law's where the arguments, and the package variables that the reading takes, are together of bulk at most 1048576: NARROWER than '..Said'. Prove '..Said' where nothing that the law and all that it calls make is longer than what came in: it says more and counts as full. Else prove '..UptoSaid'. A law counts once. -/
mutual
def uptoBulk {H : Type} : DataW H → Nat
  | .lit (.string bytes) => bytes.length + 1
  | .lit _ => 1
  | .nil => 1
  | .ptr d => uptoBulk d + 1
  | .slice elems spare => uptoBulkAll elems + uptoBulkAll spare + 1
  | .agg parts => uptoBulkAll parts + 1
  | .iface _ d => uptoBulk d + 1
  | .map entries => uptoBulkEntries entries + 1
  | .held _ => 1
def uptoBulkAll {H : Type} : List (DataW H) → Nat
  | [] => 0
  | d :: r => uptoBulk d + uptoBulkAll r
def uptoBulkEntries {H : Type} : List (Lit × DataW H) → Nat
  | [] => 0
  | x :: r => uptoBulkEntry x + uptoBulkEntries r
def uptoBulkEntry {H : Type} : Lit × DataW H → Nat
  | (.string bytes, d) => bytes.length + uptoBulk d + 1
  | (_, d) => uptoBulk d + 1
 end
def uptoSmall : (H : Type) → List (DataW H) → Bool := fun _ ds => decide (uptoBulkAll ds ≤ 1048576)
def OpenSpec.upto (s : _root_.Go.ChangeSpec) : _root_.Go.OpenSpec := { _root_.Go.OpenSpec.ofChange s with cond := some uptoSmall }

/-- 'stratalaw14.OrderWrites', WHERE WHAT IT READS IS OF BULK AT MOST 1048576: true; the input reads as it did. -/
def orderWritesUptoRow : OpenClaim := { program := "ytifnhpmeoogedaagreatdoor", sum := "dfcb8349ebf2a6e52240306081b87f9ae45fd81ee6fc963099664a1b4bd167b1", func := "strata/stratalaw14.OrderWrites", spec := "orderWrites", inPlace := ["internal/bytealg.Compare", "internal/bytealg.IndexByteString"], unfollowed := true, recurses := true, named := ["strata/order.kinds", "strata/wire.table"], apart := false, laid := [("strata/wire.table", laid_strata_wire_table), ("strata/order.kinds", laid_strata_order_kinds)], narrowed := true }
def OrderWritesUptoSaid : Prop := orderWritesUptoRow.holds Tryz.pinned (OpenSpec.upto orderWritesSpec)

/-- 'stratalaw14.OrderReads', WHERE WHAT IT READS IS OF BULK AT MOST 1048576: true; the input reads as it did. -/
def orderReadsUptoRow : OpenClaim := { program := "ytifnhpmeoogedaagreatdoor", sum := "dfcb8349ebf2a6e52240306081b87f9ae45fd81ee6fc963099664a1b4bd167b1", func := "strata/stratalaw14.OrderReads", spec := "orderReads", inPlace := ["internal/bytealg.Compare", "internal/bytealg.IndexByteString"], unfollowed := true, recurses := true, named := ["strata/order.kinds", "strata/wire.table"], apart := false, laid := [("strata/wire.table", laid_strata_wire_table), ("strata/order.kinds", laid_strata_order_kinds)], narrowed := true }
def OrderReadsUptoSaid : Prop := orderReadsUptoRow.holds Tryz.pinned (OpenSpec.upto orderReadsSpec)

/-- 'stratalaw14.OrderSame', WHERE WHAT IT READS IS OF BULK AT MOST 1048576: true; the input reads as it did. -/
def orderSameUptoRow : OpenClaim := { program := "ytifnhpmeoogedaagreatdoor", sum := "dfcb8349ebf2a6e52240306081b87f9ae45fd81ee6fc963099664a1b4bd167b1", func := "strata/stratalaw14.OrderSame", spec := "orderSame", inPlace := ["internal/bytealg.Compare", "internal/bytealg.IndexByteString"], unfollowed := true, recurses := true, named := ["strata/order.kinds", "strata/wire.table"], apart := false, laid := [("strata/wire.table", laid_strata_wire_table), ("strata/order.kinds", laid_strata_order_kinds)], narrowed := true }
def OrderSameUptoSaid : Prop := orderSameUptoRow.holds Tryz.pinned (OpenSpec.upto orderSameSpec)

/-- 'stratalaw14.OrderBack', WHERE WHAT IT READS IS OF BULK AT MOST 1048576: true; the input reads as it did. -/
def orderBackUptoRow : OpenClaim := { program := "ytifnhpmeoogedaagreatdoor", sum := "dfcb8349ebf2a6e52240306081b87f9ae45fd81ee6fc963099664a1b4bd167b1", func := "strata/stratalaw14.OrderBack", spec := "orderBack", inPlace := ["internal/bytealg.Compare", "internal/bytealg.IndexByteString"], unfollowed := true, recurses := true, named := ["strata/order.kinds", "strata/wire.table"], apart := false, laid := [("strata/wire.table", laid_strata_wire_table), ("strata/order.kinds", laid_strata_order_kinds)], narrowed := true }
def OrderBackUptoSaid : Prop := orderBackUptoRow.holds Tryz.pinned (OpenSpec.upto orderBackSpec)

/-- 'stratalaw14.OrderCuts', WHERE WHAT IT READS IS OF BULK AT MOST 1048576: true; the input reads as it did. -/
def orderCutsUptoRow : OpenClaim := { program := "ytifnhpmeoogedaagreatdoor", sum := "dfcb8349ebf2a6e52240306081b87f9ae45fd81ee6fc963099664a1b4bd167b1", func := "strata/stratalaw14.OrderCuts", spec := "orderCuts", inPlace := ["internal/bytealg.Compare", "internal/bytealg.IndexByteString"], unfollowed := true, recurses := true, named := ["strata/order.kinds", "strata/wire.table"], apart := false, laid := [("strata/wire.table", laid_strata_wire_table), ("strata/order.kinds", laid_strata_order_kinds)], narrowed := true }
def OrderCutsUptoSaid : Prop := orderCutsUptoRow.holds Tryz.pinned (OpenSpec.upto orderCutsSpec)

/-- 'stratalaw14.OrderReplies', WHERE WHAT IT READS IS OF BULK AT MOST 1048576: true; the input reads as it did. -/
def orderRepliesUptoRow : OpenClaim := { program := "ytifnhpmeoogedaagreatdoor", sum := "dfcb8349ebf2a6e52240306081b87f9ae45fd81ee6fc963099664a1b4bd167b1", func := "strata/stratalaw14.OrderReplies", spec := "orderReplies", inPlace := ["internal/bytealg.Compare", "internal/bytealg.IndexByteString"], unfollowed := true, recurses := true, named := ["strata/order.kinds", "strata/wire.table"], apart := false, laid := [("strata/wire.table", laid_strata_wire_table), ("strata/order.kinds", laid_strata_order_kinds)], narrowed := true }
def OrderRepliesUptoSaid : Prop := orderRepliesUptoRow.holds Tryz.pinned (OpenSpec.upto orderRepliesSpec)

/-- 'stratalaw14.OrderLong', WHERE WHAT IT READS IS OF BULK AT MOST 1048576: true; the input reads as it did. -/
def orderLongUptoRow : OpenClaim := { program := "ytifnhpmeoogedaagreatdoor", sum := "dfcb8349ebf2a6e52240306081b87f9ae45fd81ee6fc963099664a1b4bd167b1", func := "strata/stratalaw14.OrderLong", spec := "orderLong", inPlace := ["internal/bytealg.Compare", "internal/bytealg.IndexByteString"], unfollowed := true, recurses := true, named := ["strata/order.kinds", "strata/wire.table"], apart := false, laid := [("strata/wire.table", laid_strata_wire_table), ("strata/order.kinds", laid_strata_order_kinds)], narrowed := true }
def OrderLongUptoSaid : Prop := orderLongUptoRow.holds Tryz.pinned (OpenSpec.upto orderLongSpec)

/-- 'stratalaw14.OrderAgain', WHERE WHAT IT READS IS OF BULK AT MOST 1048576: true; the input reads as it did. -/
def orderAgainUptoRow : OpenClaim := { program := "ytifnhpmeoogedaagreatdoor", sum := "dfcb8349ebf2a6e52240306081b87f9ae45fd81ee6fc963099664a1b4bd167b1", func := "strata/stratalaw14.OrderAgain", spec := "orderAgain", inPlace := ["internal/bytealg.Compare", "internal/bytealg.IndexByteString"], unfollowed := true, recurses := true, named := ["strata/order.kinds", "strata/wire.table"], apart := false, laid := [("strata/wire.table", laid_strata_wire_table), ("strata/order.kinds", laid_strata_order_kinds)], narrowed := true }
def OrderAgainUptoSaid : Prop := orderAgainUptoRow.holds Tryz.pinned (OpenSpec.upto orderAgainSpec)

/-- 'stratalaw14.OrderLent', WHERE WHAT IT READS IS OF BULK AT MOST 1048576: true; the input reads as it did. -/
def orderLentUptoRow : OpenClaim := { program := "ytifnhpmeoogedaagreatdoor", sum := "dfcb8349ebf2a6e52240306081b87f9ae45fd81ee6fc963099664a1b4bd167b1", func := "strata/stratalaw14.OrderLent", spec := "orderLent", inPlace := ["internal/bytealg.Compare", "internal/bytealg.IndexByteString"], unfollowed := true, recurses := true, named := ["strata/order.kinds", "strata/wire.table"], apart := false, laid := [("strata/wire.table", laid_strata_wire_table), ("strata/order.kinds", laid_strata_order_kinds)], narrowed := true }
def OrderLentUptoSaid : Prop := orderLentUptoRow.holds Tryz.pinned (OpenSpec.upto orderLentSpec)

end Rows
end Go.Proofs.YtifnhpmeoogedaaGreatDoor
