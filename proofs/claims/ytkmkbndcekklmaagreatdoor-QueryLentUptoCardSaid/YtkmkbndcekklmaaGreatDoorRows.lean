/-
  NARROWER THAN 'FOR EVERY INPUT', by the rows' own cells (each row's printed sentence says how): QueryLent: laid · QueryChecks: laid · QueryWheres: laid · QueryRuns: laid · QueryPages: laid · QueryWhole: laid · QueryBack: laid · QueryMoves: laid · QueryTokens: laid · QueryOwn: laid.
  DERIVED. THE GIVEN ROWS OF THIS SEAT. 10 by the template 'for every input the law returns true; each argument reads behind the call as it read before'; 0 by the template 'total and deterministic' (their statements: YtkmkbndcekklmaaGreatDoorTotals.lean).
  GIVEN WITH THE SEED: the statements are not yours to turn. If you find one false, say at which input.
  Laid BY PROGRAM, IN A SANDBOX (cutbox-rows.mjs): the forced cells as the released guide's own fill.sh prints them over the translation acfd6abbad62a3e2… (all of the seat's roots in one cut). By AI agents, Wed Nov 11 2026. No macro, syntax, notation, axiom, sorry.
-/
import Derived.Test.YtkmkbndcekklmaaGreatDoorChecked
import GoSem.Claim
import GoSem.ClaimJoined
import GoSem.ClaimMapViews
import Derived.JoinedTies
import Derived.KernelRfl
namespace Go.Proofs.YtkmkbndcekklmaaGreatDoor
/- THE CELL 'sum', in the pinned program and in every row, IS THE sha256 OF THE DUMP (.gsa) THAT YtkmkbndcekklmaaGreatDoorProg.lean LOADS. Nothing in Lean hashes anything: it is a label: what it is worth is what the hold of that sum in a sandbox is worth. -/
noncomputable def Tryz.pinned : Pinned := { name := "ytkmkbndcekklmaagreatdoor", sum := "acfd6abbad62a3e29c3f0316ae6d1ee66d10bc136b70d2ec52406da4a790deb2", checked := Tryz.checked }
namespace Rows
def none {H : Type} : Left H := { results := [], args := [] }

/- WHAT THE LISTED PACKAGE-LEVEL VARIABLES READ AS WHEN THE CALL BEGINS. Each datum BY PROGRAM (the guide's laid-datum.mjs) off the statement by which the dump's own 'gosem.cut.vars' lays the variable. In a bare row this is a premise. The card (YtkmkbndcekklmaaGreatDoorCards.lean) ties it to the program's text. -/
def laid_strata_wire_table {H : Type} : DataW H := .agg [.lit (.int .u32 0), .lit (.int .u32 274646895), .lit (.int .u32 549293790), .lit (.int .u32 820201905), .lit (.int .u32 1098587580), .lit (.int .u32 1361435347), .lit (.int .u32 1640403810), .lit (.int .u32 1905808397), .lit (.int .u32 2197175160), .lit (.int .u32 2460548119), .lit (.int .u32 2722870694), .lit (.int .u32 2987750089), .lit (.int .u32 3280807620), .lit (.int .u32 3553878443), .lit (.int .u32 3811616794), .lit (.int .u32 4084100981)]

/-- 'stratalaw13.QueryLent': WHATEVER THE INPUT: true; the input reads as it did. -/
def queryLentSpec : ChangeSpec := { name := "queryLent", fn := fun _ => fun
  | [d1, d2, d3] => { results := [.lit (.bool true)], args := [d1, d2, d3] }
  | _ => none }
def queryLentRow : OpenClaim := { program := "ytkmkbndcekklmaagreatdoor", sum := "acfd6abbad62a3e29c3f0316ae6d1ee66d10bc136b70d2ec52406da4a790deb2", func := "strata/stratalaw13.QueryLent", spec := "queryLent", inPlace := ["internal/bytealg.Compare", "internal/bytealg.IndexByteString"], unfollowed := true, recurses := true, named := ["strata/wire.table"], apart := false, laid := [("strata/wire.table", laid_strata_wire_table)] }
def QueryLentSaid : Prop := queryLentRow.holds Tryz.pinned (OpenSpec.ofChange queryLentSpec)

/-- ITS FALSE NEIGHBOUR: 'it returns false'. Refute it at one input. -/
def queryLentWrong : ChangeSpec := { name := "queryLent", fn := fun _ => fun
  | [d1, d2, d3] => { results := [.lit (.bool false)], args := [d1, d2, d3] }
  | _ => none }
def QueryLentWrongFalsely : Prop := queryLentRow.holds Tryz.pinned (OpenSpec.ofChange queryLentWrong)

/-- 'stratalaw13.QueryChecks': WHATEVER THE INPUT: true; the input reads as it did. -/
def queryChecksSpec : ChangeSpec := { name := "queryChecks", fn := fun _ => fun
  | [d1, d2, d3] => { results := [.lit (.bool true)], args := [d1, d2, d3] }
  | _ => none }
def queryChecksRow : OpenClaim := { program := "ytkmkbndcekklmaagreatdoor", sum := "acfd6abbad62a3e29c3f0316ae6d1ee66d10bc136b70d2ec52406da4a790deb2", func := "strata/stratalaw13.QueryChecks", spec := "queryChecks", inPlace := ["internal/bytealg.Compare", "internal/bytealg.IndexByteString"], unfollowed := true, recurses := true, named := ["strata/wire.table"], apart := false, laid := [("strata/wire.table", laid_strata_wire_table)] }
def QueryChecksSaid : Prop := queryChecksRow.holds Tryz.pinned (OpenSpec.ofChange queryChecksSpec)

/-- ITS FALSE NEIGHBOUR: 'it returns false'. Refute it at one input. -/
def queryChecksWrong : ChangeSpec := { name := "queryChecks", fn := fun _ => fun
  | [d1, d2, d3] => { results := [.lit (.bool false)], args := [d1, d2, d3] }
  | _ => none }
def QueryChecksWrongFalsely : Prop := queryChecksRow.holds Tryz.pinned (OpenSpec.ofChange queryChecksWrong)

/-- 'stratalaw13.QueryWheres': WHATEVER THE INPUT: true; the input reads as it did. -/
def queryWheresSpec : ChangeSpec := { name := "queryWheres", fn := fun _ => fun
  | [d1, d2] => { results := [.lit (.bool true)], args := [d1, d2] }
  | _ => none }
def queryWheresRow : OpenClaim := { program := "ytkmkbndcekklmaagreatdoor", sum := "acfd6abbad62a3e29c3f0316ae6d1ee66d10bc136b70d2ec52406da4a790deb2", func := "strata/stratalaw13.QueryWheres", spec := "queryWheres", inPlace := ["internal/bytealg.IndexByteString", "internal/bytealg.Compare"], unfollowed := true, recurses := true, named := ["strata/wire.table"], apart := false, laid := [("strata/wire.table", laid_strata_wire_table)] }
def QueryWheresSaid : Prop := queryWheresRow.holds Tryz.pinned (OpenSpec.ofChange queryWheresSpec)

/-- ITS FALSE NEIGHBOUR: 'it returns false'. Refute it at one input. -/
def queryWheresWrong : ChangeSpec := { name := "queryWheres", fn := fun _ => fun
  | [d1, d2] => { results := [.lit (.bool false)], args := [d1, d2] }
  | _ => none }
def QueryWheresWrongFalsely : Prop := queryWheresRow.holds Tryz.pinned (OpenSpec.ofChange queryWheresWrong)

/-- 'stratalaw13.QueryRuns': WHATEVER THE INPUT: true; the input reads as it did. -/
def queryRunsSpec : ChangeSpec := { name := "queryRuns", fn := fun _ => fun
  | [d1, d2, d3, d4, d5] => { results := [.lit (.bool true)], args := [d1, d2, d3, d4, d5] }
  | _ => none }
def queryRunsRow : OpenClaim := { program := "ytkmkbndcekklmaagreatdoor", sum := "acfd6abbad62a3e29c3f0316ae6d1ee66d10bc136b70d2ec52406da4a790deb2", func := "strata/stratalaw13.QueryRuns", spec := "queryRuns", inPlace := ["internal/bytealg.Compare", "internal/bytealg.IndexByteString"], unfollowed := true, recurses := true, named := ["strata/wire.table"], apart := false, laid := [("strata/wire.table", laid_strata_wire_table)] }
def QueryRunsSaid : Prop := queryRunsRow.holds Tryz.pinned (OpenSpec.ofChange queryRunsSpec)

/-- ITS FALSE NEIGHBOUR: 'it returns false'. Refute it at one input. -/
def queryRunsWrong : ChangeSpec := { name := "queryRuns", fn := fun _ => fun
  | [d1, d2, d3, d4, d5] => { results := [.lit (.bool false)], args := [d1, d2, d3, d4, d5] }
  | _ => none }
def QueryRunsWrongFalsely : Prop := queryRunsRow.holds Tryz.pinned (OpenSpec.ofChange queryRunsWrong)

/-- 'stratalaw13.QueryPages': WHATEVER THE INPUT: true; the input reads as it did. -/
def queryPagesSpec : ChangeSpec := { name := "queryPages", fn := fun _ => fun
  | [d1, d2, d3, d4, d5] => { results := [.lit (.bool true)], args := [d1, d2, d3, d4, d5] }
  | _ => none }
def queryPagesRow : OpenClaim := { program := "ytkmkbndcekklmaagreatdoor", sum := "acfd6abbad62a3e29c3f0316ae6d1ee66d10bc136b70d2ec52406da4a790deb2", func := "strata/stratalaw13.QueryPages", spec := "queryPages", inPlace := ["internal/bytealg.Compare", "internal/bytealg.IndexByteString"], unfollowed := true, recurses := true, named := ["strata/wire.table"], apart := false, laid := [("strata/wire.table", laid_strata_wire_table)] }
def QueryPagesSaid : Prop := queryPagesRow.holds Tryz.pinned (OpenSpec.ofChange queryPagesSpec)

/-- ITS FALSE NEIGHBOUR: 'it returns false'. Refute it at one input. -/
def queryPagesWrong : ChangeSpec := { name := "queryPages", fn := fun _ => fun
  | [d1, d2, d3, d4, d5] => { results := [.lit (.bool false)], args := [d1, d2, d3, d4, d5] }
  | _ => none }
def QueryPagesWrongFalsely : Prop := queryPagesRow.holds Tryz.pinned (OpenSpec.ofChange queryPagesWrong)

/-- 'stratalaw13.QueryWhole': WHATEVER THE INPUT: true; the input reads as it did. -/
def queryWholeSpec : ChangeSpec := { name := "queryWhole", fn := fun _ => fun
  | [d1, d2, d3, d4] => { results := [.lit (.bool true)], args := [d1, d2, d3, d4] }
  | _ => none }
def queryWholeRow : OpenClaim := { program := "ytkmkbndcekklmaagreatdoor", sum := "acfd6abbad62a3e29c3f0316ae6d1ee66d10bc136b70d2ec52406da4a790deb2", func := "strata/stratalaw13.QueryWhole", spec := "queryWhole", inPlace := ["internal/bytealg.Compare", "internal/bytealg.IndexByteString"], unfollowed := true, recurses := true, named := ["strata/wire.table"], apart := false, laid := [("strata/wire.table", laid_strata_wire_table)] }
def QueryWholeSaid : Prop := queryWholeRow.holds Tryz.pinned (OpenSpec.ofChange queryWholeSpec)

/-- ITS FALSE NEIGHBOUR: 'it returns false'. Refute it at one input. -/
def queryWholeWrong : ChangeSpec := { name := "queryWhole", fn := fun _ => fun
  | [d1, d2, d3, d4] => { results := [.lit (.bool false)], args := [d1, d2, d3, d4] }
  | _ => none }
def QueryWholeWrongFalsely : Prop := queryWholeRow.holds Tryz.pinned (OpenSpec.ofChange queryWholeWrong)

/-- 'stratalaw13.QueryBack': WHATEVER THE INPUT: true; the input reads as it did. -/
def queryBackSpec : ChangeSpec := { name := "queryBack", fn := fun _ => fun
  | [d1, d2, d3, d4] => { results := [.lit (.bool true)], args := [d1, d2, d3, d4] }
  | _ => none }
def queryBackRow : OpenClaim := { program := "ytkmkbndcekklmaagreatdoor", sum := "acfd6abbad62a3e29c3f0316ae6d1ee66d10bc136b70d2ec52406da4a790deb2", func := "strata/stratalaw13.QueryBack", spec := "queryBack", inPlace := ["internal/bytealg.Compare", "internal/bytealg.IndexByteString"], unfollowed := true, recurses := true, named := ["strata/wire.table"], apart := false, laid := [("strata/wire.table", laid_strata_wire_table)] }
def QueryBackSaid : Prop := queryBackRow.holds Tryz.pinned (OpenSpec.ofChange queryBackSpec)

/-- ITS FALSE NEIGHBOUR: 'it returns false'. Refute it at one input. -/
def queryBackWrong : ChangeSpec := { name := "queryBack", fn := fun _ => fun
  | [d1, d2, d3, d4] => { results := [.lit (.bool false)], args := [d1, d2, d3, d4] }
  | _ => none }
def QueryBackWrongFalsely : Prop := queryBackRow.holds Tryz.pinned (OpenSpec.ofChange queryBackWrong)

/-- 'stratalaw13.QueryMoves': WHATEVER THE INPUT: true; the input reads as it did. -/
def queryMovesSpec : ChangeSpec := { name := "queryMoves", fn := fun _ => fun
  | [d1, d2, d3, d4] => { results := [.lit (.bool true)], args := [d1, d2, d3, d4] }
  | _ => none }
def queryMovesRow : OpenClaim := { program := "ytkmkbndcekklmaagreatdoor", sum := "acfd6abbad62a3e29c3f0316ae6d1ee66d10bc136b70d2ec52406da4a790deb2", func := "strata/stratalaw13.QueryMoves", spec := "queryMoves", inPlace := ["internal/bytealg.Compare", "internal/bytealg.IndexByteString"], unfollowed := true, recurses := true, named := ["strata/wire.table"], apart := false, laid := [("strata/wire.table", laid_strata_wire_table)] }
def QueryMovesSaid : Prop := queryMovesRow.holds Tryz.pinned (OpenSpec.ofChange queryMovesSpec)

/-- ITS FALSE NEIGHBOUR: 'it returns false'. Refute it at one input. -/
def queryMovesWrong : ChangeSpec := { name := "queryMoves", fn := fun _ => fun
  | [d1, d2, d3, d4] => { results := [.lit (.bool false)], args := [d1, d2, d3, d4] }
  | _ => none }
def QueryMovesWrongFalsely : Prop := queryMovesRow.holds Tryz.pinned (OpenSpec.ofChange queryMovesWrong)

/-- 'stratalaw13.QueryTokens': WHATEVER THE INPUT: true; the input reads as it did. -/
def queryTokensSpec : ChangeSpec := { name := "queryTokens", fn := fun _ => fun
  | [d1, d2, d3, d4] => { results := [.lit (.bool true)], args := [d1, d2, d3, d4] }
  | _ => none }
def queryTokensRow : OpenClaim := { program := "ytkmkbndcekklmaagreatdoor", sum := "acfd6abbad62a3e29c3f0316ae6d1ee66d10bc136b70d2ec52406da4a790deb2", func := "strata/stratalaw13.QueryTokens", spec := "queryTokens", inPlace := ["internal/bytealg.Compare", "internal/bytealg.IndexByteString"], unfollowed := true, recurses := true, named := ["strata/wire.table"], apart := false, laid := [("strata/wire.table", laid_strata_wire_table)] }
def QueryTokensSaid : Prop := queryTokensRow.holds Tryz.pinned (OpenSpec.ofChange queryTokensSpec)

/-- ITS FALSE NEIGHBOUR: 'it returns false'. Refute it at one input. -/
def queryTokensWrong : ChangeSpec := { name := "queryTokens", fn := fun _ => fun
  | [d1, d2, d3, d4] => { results := [.lit (.bool false)], args := [d1, d2, d3, d4] }
  | _ => none }
def QueryTokensWrongFalsely : Prop := queryTokensRow.holds Tryz.pinned (OpenSpec.ofChange queryTokensWrong)

/-- 'stratalaw13.QueryOwn': WHATEVER THE INPUT: true; the input reads as it did. -/
def queryOwnSpec : ChangeSpec := { name := "queryOwn", fn := fun _ => fun
  | [d1, d2] => { results := [.lit (.bool true)], args := [d1, d2] }
  | _ => none }
def queryOwnRow : OpenClaim := { program := "ytkmkbndcekklmaagreatdoor", sum := "acfd6abbad62a3e29c3f0316ae6d1ee66d10bc136b70d2ec52406da4a790deb2", func := "strata/stratalaw13.QueryOwn", spec := "queryOwn", inPlace := ["internal/bytealg.Compare", "internal/bytealg.IndexByteString"], unfollowed := true, recurses := true, named := ["strata/wire.table"], apart := false, laid := [("strata/wire.table", laid_strata_wire_table)] }
def QueryOwnSaid : Prop := queryOwnRow.holds Tryz.pinned (OpenSpec.ofChange queryOwnSpec)

/-- ITS FALSE NEIGHBOUR: 'it returns false'. Refute it at one input. -/
def queryOwnWrong : ChangeSpec := { name := "queryOwn", fn := fun _ => fun
  | [d1, d2] => { results := [.lit (.bool false)], args := [d1, d2] }
  | _ => none }
def QueryOwnWrongFalsely : Prop := queryOwnRow.holds Tryz.pinned (OpenSpec.ofChange queryOwnWrong)

/- THE SECOND FORM. 'bulk': how many values and letters a reading holds, each counted each time it is reached (what is shared counts as often as it is met; a slice's spare places count too). A statement '..UptoSaid' is the law's where the arguments, and the package variables that the reading takes, are together of bulk at most 1048576: NARROWER than '..Said'. Prove '..Said' where nothing that the law and all that it calls make is longer than what came in: it says more and counts as full. Else prove '..UptoSaid'. A law counts once. -/
mutual
def uptoBulk {H : Type} : DataW H → Nat
  | .lit (.string bytes) => bytes.length + 1
  | .lit _ => 1
  | .nil => 1
  | .ptr d => uptoBulk d + 1
  | .slice elems spare => uptoBulkAll elems + uptoBulkAll spare + 1
  | .agg parts => uptoBulkAll parts + 1
  | .iface _ d => uptoBulk d + 1
  | .map entries => uptoBulkEntries entries + 1
  | .held _ => 1
def uptoBulkAll {H : Type} : List (DataW H) → Nat
  | [] => 0
  | d :: r => uptoBulk d + uptoBulkAll r
def uptoBulkEntries {H : Type} : List (Lit × DataW H) → Nat
  | [] => 0
  | x :: r => uptoBulkEntry x + uptoBulkEntries r
def uptoBulkEntry {H : Type} : Lit × DataW H → Nat
  | (.string bytes, d) => bytes.length + uptoBulk d + 1
  | (_, d) => uptoBulk d + 1
 end
def uptoSmall : (H : Type) → List (DataW H) → Bool := fun _ ds => decide (uptoBulkAll ds ≤ 1048576)
def OpenSpec.upto (s : _root_.Go.ChangeSpec) : _root_.Go.OpenSpec := { _root_.Go.OpenSpec.ofChange s with cond := some uptoSmall }

/-- 'stratalaw13.QueryLent', WHERE WHAT IT READS IS OF BULK AT MOST 1048576: true; the input reads as it did. -/
def queryLentUptoRow : OpenClaim := { program := "ytkmkbndcekklmaagreatdoor", sum := "acfd6abbad62a3e29c3f0316ae6d1ee66d10bc136b70d2ec52406da4a790deb2", func := "strata/stratalaw13.QueryLent", spec := "queryLent", inPlace := ["internal/bytealg.Compare", "internal/bytealg.IndexByteString"], unfollowed := true, recurses := true, named := ["strata/wire.table"], apart := false, laid := [("strata/wire.table", laid_strata_wire_table)], narrowed := true }
def QueryLentUptoSaid : Prop := queryLentUptoRow.holds Tryz.pinned (OpenSpec.upto queryLentSpec)

/-- 'stratalaw13.QueryChecks', WHERE WHAT IT READS IS OF BULK AT MOST 1048576: true; the input reads as it did. -/
def queryChecksUptoRow : OpenClaim := { program := "ytkmkbndcekklmaagreatdoor", sum := "acfd6abbad62a3e29c3f0316ae6d1ee66d10bc136b70d2ec52406da4a790deb2", func := "strata/stratalaw13.QueryChecks", spec := "queryChecks", inPlace := ["internal/bytealg.Compare", "internal/bytealg.IndexByteString"], unfollowed := true, recurses := true, named := ["strata/wire.table"], apart := false, laid := [("strata/wire.table", laid_strata_wire_table)], narrowed := true }
def QueryChecksUptoSaid : Prop := queryChecksUptoRow.holds Tryz.pinned (OpenSpec.upto queryChecksSpec)

/-- 'stratalaw13.QueryWheres', WHERE WHAT IT READS IS OF BULK AT MOST 1048576: true; the input reads as it did. -/
def queryWheresUptoRow : OpenClaim := { program := "ytkmkbndcekklmaagreatdoor", sum := "acfd6abbad62a3e29c3f0316ae6d1ee66d10bc136b70d2ec52406da4a790deb2", func := "strata/stratalaw13.QueryWheres", spec := "queryWheres", inPlace := ["internal/bytealg.IndexByteString", "internal/bytealg.Compare"], unfollowed := true, recurses := true, named := ["strata/wire.table"], apart := false, laid := [("strata/wire.table", laid_strata_wire_table)], narrowed := true }
def QueryWheresUptoSaid : Prop := queryWheresUptoRow.holds Tryz.pinned (OpenSpec.upto queryWheresSpec)

/-- 'stratalaw13.QueryRuns', WHERE WHAT IT READS IS OF BULK AT MOST 1048576: true; the input reads as it did. -/
def queryRunsUptoRow : OpenClaim := { program := "ytkmkbndcekklmaagreatdoor", sum := "acfd6abbad62a3e29c3f0316ae6d1ee66d10bc136b70d2ec52406da4a790deb2", func := "strata/stratalaw13.QueryRuns", spec := "queryRuns", inPlace := ["internal/bytealg.Compare", "internal/bytealg.IndexByteString"], unfollowed := true, recurses := true, named := ["strata/wire.table"], apart := false, laid := [("strata/wire.table", laid_strata_wire_table)], narrowed := true }
def QueryRunsUptoSaid : Prop := queryRunsUptoRow.holds Tryz.pinned (OpenSpec.upto queryRunsSpec)

/-- 'stratalaw13.QueryPages', WHERE WHAT IT READS IS OF BULK AT MOST 1048576: true; the input reads as it did. -/
def queryPagesUptoRow : OpenClaim := { program := "ytkmkbndcekklmaagreatdoor", sum := "acfd6abbad62a3e29c3f0316ae6d1ee66d10bc136b70d2ec52406da4a790deb2", func := "strata/stratalaw13.QueryPages", spec := "queryPages", inPlace := ["internal/bytealg.Compare", "internal/bytealg.IndexByteString"], unfollowed := true, recurses := true, named := ["strata/wire.table"], apart := false, laid := [("strata/wire.table", laid_strata_wire_table)], narrowed := true }
def QueryPagesUptoSaid : Prop := queryPagesUptoRow.holds Tryz.pinned (OpenSpec.upto queryPagesSpec)

/-- 'stratalaw13.QueryWhole', WHERE WHAT IT READS IS OF BULK AT MOST 1048576: true; the input reads as it did. -/
def queryWholeUptoRow : OpenClaim := { program := "ytkmkbndcekklmaagreatdoor", sum := "acfd6abbad62a3e29c3f0316ae6d1ee66d10bc136b70d2ec52406da4a790deb2", func := "strata/stratalaw13.QueryWhole", spec := "queryWhole", inPlace := ["internal/bytealg.Compare", "internal/bytealg.IndexByteString"], unfollowed := true, recurses := true, named := ["strata/wire.table"], apart := false, laid := [("strata/wire.table", laid_strata_wire_table)], narrowed := true }
def QueryWholeUptoSaid : Prop := queryWholeUptoRow.holds Tryz.pinned (OpenSpec.upto queryWholeSpec)

/-- 'stratalaw13.QueryBack', WHERE WHAT IT READS IS OF BULK AT MOST 1048576: true; the input reads as it did. -/
def queryBackUptoRow : OpenClaim := { program := "ytkmkbndcekklmaagreatdoor", sum := "acfd6abbad62a3e29c3f0316ae6d1ee66d10bc136b70d2ec52406da4a790deb2", func := "strata/stratalaw13.QueryBack", spec := "queryBack", inPlace := ["internal/bytealg.Compare", "internal/bytealg.IndexByteString"], unfollowed := true, recurses := true, named := ["strata/wire.table"], apart := false, laid := [("strata/wire.table", laid_strata_wire_table)], narrowed := true }
def QueryBackUptoSaid : Prop := queryBackUptoRow.holds Tryz.pinned (OpenSpec.upto queryBackSpec)

/-- 'stratalaw13.QueryMoves', WHERE WHAT IT READS IS OF BULK AT MOST 1048576: true; the input reads as it did. -/
def queryMovesUptoRow : OpenClaim := { program := "ytkmkbndcekklmaagreatdoor", sum := "acfd6abbad62a3e29c3f0316ae6d1ee66d10bc136b70d2ec52406da4a790deb2", func := "strata/stratalaw13.QueryMoves", spec := "queryMoves", inPlace := ["internal/bytealg.Compare", "internal/bytealg.IndexByteString"], unfollowed := true, recurses := true, named := ["strata/wire.table"], apart := false, laid := [("strata/wire.table", laid_strata_wire_table)], narrowed := true }
def QueryMovesUptoSaid : Prop := queryMovesUptoRow.holds Tryz.pinned (OpenSpec.upto queryMovesSpec)

/-- 'stratalaw13.QueryTokens', WHERE WHAT IT READS IS OF BULK AT MOST 1048576: true; the input reads as it did. -/
def queryTokensUptoRow : OpenClaim := { program := "ytkmkbndcekklmaagreatdoor", sum := "acfd6abbad62a3e29c3f0316ae6d1ee66d10bc136b70d2ec52406da4a790deb2", func := "strata/stratalaw13.QueryTokens", spec := "queryTokens", inPlace := ["internal/bytealg.Compare", "internal/bytealg.IndexByteString"], unfollowed := true, recurses := true, named := ["strata/wire.table"], apart := false, laid := [("strata/wire.table", laid_strata_wire_table)], narrowed := true }
def QueryTokensUptoSaid : Prop := queryTokensUptoRow.holds Tryz.pinned (OpenSpec.upto queryTokensSpec)

/-- 'stratalaw13.QueryOwn', WHERE WHAT IT READS IS OF BULK AT MOST 1048576: true; the input reads as it did. -/
def queryOwnUptoRow : OpenClaim := { program := "ytkmkbndcekklmaagreatdoor", sum := "acfd6abbad62a3e29c3f0316ae6d1ee66d10bc136b70d2ec52406da4a790deb2", func := "strata/stratalaw13.QueryOwn", spec := "queryOwn", inPlace := ["internal/bytealg.Compare", "internal/bytealg.IndexByteString"], unfollowed := true, recurses := true, named := ["strata/wire.table"], apart := false, laid := [("strata/wire.table", laid_strata_wire_table)], narrowed := true }
def QueryOwnUptoSaid : Prop := queryOwnUptoRow.holds Tryz.pinned (OpenSpec.upto queryOwnSpec)

end Rows
end Go.Proofs.YtkmkbndcekklmaaGreatDoor
