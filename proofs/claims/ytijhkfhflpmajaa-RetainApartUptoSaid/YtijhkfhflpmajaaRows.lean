/-
  No cell of these rows narrows 'for every input' (looked for: loops, veiled, ifaces, maps, wideKeys, modest, calm, conditions, laid).
  DERIVED. THE GIVEN ROWS OF THIS SEAT. 8 by the template 'for every input the law returns true; each argument reads behind the call as it read before'; 0 by the template 'total and deterministic' (their statements: YtijhkfhflpmajaaTotals.lean).
  GIVEN WITH THE SEED: the statements are not yours to turn. If you find one false, say at which input.
  Laid BY PROGRAM, IN A SANDBOX (cutbox-rows.mjs): the forced cells as the released guide's own fill.sh prints them over the translation 16434317c3ecb03a… (all of the seat's roots in one cut). By AI agents, Wed Nov 11 2026. No macro, syntax, notation, axiom, sorry.
-/
import Derived.Test.YtijhkfhflpmajaaChecked
import GoSem.Claim
import GoSem.ClaimJoined
import GoSem.ClaimMapViews
import Derived.JoinedTies
import Derived.KernelRfl
namespace Go.Proofs.Ytijhkfhflpmajaa
/- THE CELL 'sum', in the pinned program and in every row, IS THE sha256 OF THE DUMP (.gsa) THAT YtijhkfhflpmajaaProg.lean LOADS. Nothing in Lean hashes anything: it is a label: what it is worth is what the hold of that sum in a sandbox is worth. -/
noncomputable def Try.pinned : Pinned := { name := "ytijhkfhflpmajaa", sum := "16434317c3ecb03a2988c248a4f9dfeea26bcca48764a99d041125d57e7ded02", checked := Try.checked }
namespace Rows
def none {H : Type} : Left H := { results := [], args := [] }

/-- 'stratalaw3.RetainNeverSeen': WHATEVER THE INPUT: true; the input reads as it did. -/
def retainNeverSeenSpec : ChangeSpec := { name := "retainNeverSeen", fn := fun _ => fun
  | [d1, d2, d3, d4, d5, d6, d7] => { results := [.lit (.bool true)], args := [d1, d2, d3, d4, d5, d6, d7] }
  | _ => none }
def retainNeverSeenRow : OpenClaim := { program := "ytijhkfhflpmajaa", sum := "16434317c3ecb03a2988c248a4f9dfeea26bcca48764a99d041125d57e7ded02", func := "strata/stratalaw3.RetainNeverSeen", spec := "retainNeverSeen", inPlace := ["internal/bytealg.Compare"], unfollowed := true, recurses := true, apart := false }
def RetainNeverSeenSaid : Prop := retainNeverSeenRow.holds Try.pinned (OpenSpec.ofChange retainNeverSeenSpec)

/-- ITS FALSE NEIGHBOUR: 'it returns false'. Refute it at one input. -/
def retainNeverSeenWrong : ChangeSpec := { name := "retainNeverSeen", fn := fun _ => fun
  | [d1, d2, d3, d4, d5, d6, d7] => { results := [.lit (.bool false)], args := [d1, d2, d3, d4, d5, d6, d7] }
  | _ => none }
def RetainNeverSeenWrongFalsely : Prop := retainNeverSeenRow.holds Try.pinned (OpenSpec.ofChange retainNeverSeenWrong)

/-- 'stratalaw3.RetainMajorUnseen': WHATEVER THE INPUT: true; the input reads as it did. -/
def retainMajorUnseenSpec : ChangeSpec := { name := "retainMajorUnseen", fn := fun _ => fun
  | [d1, d2, d3, d4, d5, d6, d7, d8] => { results := [.lit (.bool true)], args := [d1, d2, d3, d4, d5, d6, d7, d8] }
  | _ => none }
def retainMajorUnseenRow : OpenClaim := { program := "ytijhkfhflpmajaa", sum := "16434317c3ecb03a2988c248a4f9dfeea26bcca48764a99d041125d57e7ded02", func := "strata/stratalaw3.RetainMajorUnseen", spec := "retainMajorUnseen", inPlace := ["internal/bytealg.Compare"], unfollowed := true, recurses := true, apart := false }
def RetainMajorUnseenSaid : Prop := retainMajorUnseenRow.holds Try.pinned (OpenSpec.ofChange retainMajorUnseenSpec)

/-- ITS FALSE NEIGHBOUR: 'it returns false'. Refute it at one input. -/
def retainMajorUnseenWrong : ChangeSpec := { name := "retainMajorUnseen", fn := fun _ => fun
  | [d1, d2, d3, d4, d5, d6, d7, d8] => { results := [.lit (.bool false)], args := [d1, d2, d3, d4, d5, d6, d7, d8] }
  | _ => none }
def RetainMajorUnseenWrongFalsely : Prop := retainMajorUnseenRow.holds Try.pinned (OpenSpec.ofChange retainMajorUnseenWrong)

/-- 'stratalaw3.RetainAgain': WHATEVER THE INPUT: true; the input reads as it did. -/
def retainAgainSpec : ChangeSpec := { name := "retainAgain", fn := fun _ => fun
  | [d1, d2, d3, d4] => { results := [.lit (.bool true)], args := [d1, d2, d3, d4] }
  | _ => none }
def retainAgainRow : OpenClaim := { program := "ytijhkfhflpmajaa", sum := "16434317c3ecb03a2988c248a4f9dfeea26bcca48764a99d041125d57e7ded02", func := "strata/stratalaw3.RetainAgain", spec := "retainAgain", inPlace := ["internal/bytealg.Compare"], unfollowed := true, recurses := true, apart := false }
def RetainAgainSaid : Prop := retainAgainRow.holds Try.pinned (OpenSpec.ofChange retainAgainSpec)

/-- ITS FALSE NEIGHBOUR: 'it returns false'. Refute it at one input. -/
def retainAgainWrong : ChangeSpec := { name := "retainAgain", fn := fun _ => fun
  | [d1, d2, d3, d4] => { results := [.lit (.bool false)], args := [d1, d2, d3, d4] }
  | _ => none }
def RetainAgainWrongFalsely : Prop := retainAgainRow.holds Try.pinned (OpenSpec.ofChange retainAgainWrong)

/-- 'stratalaw3.RetainMajorOfMinors': WHATEVER THE INPUT: true; the input reads as it did. -/
def retainMajorOfMinorsSpec : ChangeSpec := { name := "retainMajorOfMinors", fn := fun _ => fun
  | [d1, d2, d3, d4, d5, d6] => { results := [.lit (.bool true)], args := [d1, d2, d3, d4, d5, d6] }
  | _ => none }
def retainMajorOfMinorsRow : OpenClaim := { program := "ytijhkfhflpmajaa", sum := "16434317c3ecb03a2988c248a4f9dfeea26bcca48764a99d041125d57e7ded02", func := "strata/stratalaw3.RetainMajorOfMinors", spec := "retainMajorOfMinors", inPlace := ["internal/bytealg.Compare"], unfollowed := true, recurses := true, apart := false }
def RetainMajorOfMinorsSaid : Prop := retainMajorOfMinorsRow.holds Try.pinned (OpenSpec.ofChange retainMajorOfMinorsSpec)

/-- ITS FALSE NEIGHBOUR: 'it returns false'. Refute it at one input. -/
def retainMajorOfMinorsWrong : ChangeSpec := { name := "retainMajorOfMinors", fn := fun _ => fun
  | [d1, d2, d3, d4, d5, d6] => { results := [.lit (.bool false)], args := [d1, d2, d3, d4, d5, d6] }
  | _ => none }
def RetainMajorOfMinorsWrongFalsely : Prop := retainMajorOfMinorsRow.holds Try.pinned (OpenSpec.ofChange retainMajorOfMinorsWrong)

/-- 'stratalaw3.RetainCollects': WHATEVER THE INPUT: true; the input reads as it did. -/
def retainCollectsSpec : ChangeSpec := { name := "retainCollects", fn := fun _ => fun
  | [d1, d2, d3, d4] => { results := [.lit (.bool true)], args := [d1, d2, d3, d4] }
  | _ => none }
def retainCollectsRow : OpenClaim := { program := "ytijhkfhflpmajaa", sum := "16434317c3ecb03a2988c248a4f9dfeea26bcca48764a99d041125d57e7ded02", func := "strata/stratalaw3.RetainCollects", spec := "retainCollects", inPlace := ["internal/bytealg.Compare"], unfollowed := true, recurses := true, apart := false }
def RetainCollectsSaid : Prop := retainCollectsRow.holds Try.pinned (OpenSpec.ofChange retainCollectsSpec)

/-- ITS FALSE NEIGHBOUR: 'it returns false'. Refute it at one input. -/
def retainCollectsWrong : ChangeSpec := { name := "retainCollects", fn := fun _ => fun
  | [d1, d2, d3, d4] => { results := [.lit (.bool false)], args := [d1, d2, d3, d4] }
  | _ => none }
def RetainCollectsWrongFalsely : Prop := retainCollectsRow.holds Try.pinned (OpenSpec.ofChange retainCollectsWrong)

/-- 'stratalaw3.RetainNothingBack': WHATEVER THE INPUT: true; the input reads as it did. -/
def retainNothingBackSpec : ChangeSpec := { name := "retainNothingBack", fn := fun _ => fun
  | [d1, d2, d3, d4, d5] => { results := [.lit (.bool true)], args := [d1, d2, d3, d4, d5] }
  | _ => none }
def retainNothingBackRow : OpenClaim := { program := "ytijhkfhflpmajaa", sum := "16434317c3ecb03a2988c248a4f9dfeea26bcca48764a99d041125d57e7ded02", func := "strata/stratalaw3.RetainNothingBack", spec := "retainNothingBack", inPlace := ["internal/bytealg.Compare"], unfollowed := true, recurses := true, apart := false }
def RetainNothingBackSaid : Prop := retainNothingBackRow.holds Try.pinned (OpenSpec.ofChange retainNothingBackSpec)

/-- ITS FALSE NEIGHBOUR: 'it returns false'. Refute it at one input. -/
def retainNothingBackWrong : ChangeSpec := { name := "retainNothingBack", fn := fun _ => fun
  | [d1, d2, d3, d4, d5] => { results := [.lit (.bool false)], args := [d1, d2, d3, d4, d5] }
  | _ => none }
def RetainNothingBackWrongFalsely : Prop := retainNothingBackRow.holds Try.pinned (OpenSpec.ofChange retainNothingBackWrong)

/-- 'stratalaw3.RetainOwn': WHATEVER THE INPUT: true; the input reads as it did. -/
def retainOwnSpec : ChangeSpec := { name := "retainOwn", fn := fun _ => fun
  | [d1, d2, d3, d4, d5] => { results := [.lit (.bool true)], args := [d1, d2, d3, d4, d5] }
  | _ => none }
def retainOwnRow : OpenClaim := { program := "ytijhkfhflpmajaa", sum := "16434317c3ecb03a2988c248a4f9dfeea26bcca48764a99d041125d57e7ded02", func := "strata/stratalaw3.RetainOwn", spec := "retainOwn", inPlace := ["internal/bytealg.Compare"], unfollowed := true, recurses := true, apart := false }
def RetainOwnSaid : Prop := retainOwnRow.holds Try.pinned (OpenSpec.ofChange retainOwnSpec)

/-- ITS FALSE NEIGHBOUR: 'it returns false'. Refute it at one input. -/
def retainOwnWrong : ChangeSpec := { name := "retainOwn", fn := fun _ => fun
  | [d1, d2, d3, d4, d5] => { results := [.lit (.bool false)], args := [d1, d2, d3, d4, d5] }
  | _ => none }
def RetainOwnWrongFalsely : Prop := retainOwnRow.holds Try.pinned (OpenSpec.ofChange retainOwnWrong)

/-- 'stratalaw3.RetainApart': WHATEVER THE INPUT: true; the input reads as it did. -/
def retainApartSpec : ChangeSpec := { name := "retainApart", fn := fun _ => fun
  | [d1, d2] => { results := [.lit (.bool true)], args := [d1, d2] }
  | _ => none }
def retainApartRow : OpenClaim := { program := "ytijhkfhflpmajaa", sum := "16434317c3ecb03a2988c248a4f9dfeea26bcca48764a99d041125d57e7ded02", func := "strata/stratalaw3.RetainApart", spec := "retainApart", inPlace := ["internal/bytealg.Compare"], unfollowed := true, recurses := true, apart := false }
def RetainApartSaid : Prop := retainApartRow.holds Try.pinned (OpenSpec.ofChange retainApartSpec)

/-- ITS FALSE NEIGHBOUR: 'it returns false'. Refute it at one input. -/
def retainApartWrong : ChangeSpec := { name := "retainApart", fn := fun _ => fun
  | [d1, d2] => { results := [.lit (.bool false)], args := [d1, d2] }
  | _ => none }
def RetainApartWrongFalsely : Prop := retainApartRow.holds Try.pinned (OpenSpec.ofChange retainApartWrong)

/- THE SECOND FORM. 'bulk': how many values and letters a reading holds, each counted each time it is reached (what is shared counts as often as it is met; a slice's spare places count too). A statement '..UptoSaid' is the law's where the arguments, and the package variables that the reading takes, are together of bulk at most 1048576: NARROWER than '..Said'. Prove '..Said' where nothing that the law and all that it calls make is longer than what came in: it says more and counts as full. Else prove '..UptoSaid'. A law counts once. -/
mutual
def uptoBulk {H : Type} : DataW H → Nat
  | .lit (.string bytes) => bytes.length + 1
  | .lit _ => 1
  | .nil => 1
  | .ptr d => uptoBulk d + 1
  | .slice elems spare => uptoBulkAll elems + uptoBulkAll spare + 1
  | .agg parts => uptoBulkAll parts + 1
  | .iface _ d => uptoBulk d + 1
  | .map entries => uptoBulkEntries entries + 1
  | .held _ => 1
def uptoBulkAll {H : Type} : List (DataW H) → Nat
  | [] => 0
  | d :: r => uptoBulk d + uptoBulkAll r
def uptoBulkEntries {H : Type} : List (Lit × DataW H) → Nat
  | [] => 0
  | x :: r => uptoBulkEntry x + uptoBulkEntries r
def uptoBulkEntry {H : Type} : Lit × DataW H → Nat
  | (.string bytes, d) => bytes.length + uptoBulk d + 1
  | (_, d) => uptoBulk d + 1
 end
def uptoSmall : (H : Type) → List (DataW H) → Bool := fun _ ds => decide (uptoBulkAll ds ≤ 1048576)
def OpenSpec.upto (s : _root_.Go.ChangeSpec) : _root_.Go.OpenSpec := { _root_.Go.OpenSpec.ofChange s with cond := some uptoSmall }

/-- 'stratalaw3.RetainNeverSeen', WHERE WHAT IT READS IS OF BULK AT MOST 1048576: true; the input reads as it did. -/
def retainNeverSeenUptoRow : OpenClaim := { program := "ytijhkfhflpmajaa", sum := "16434317c3ecb03a2988c248a4f9dfeea26bcca48764a99d041125d57e7ded02", func := "strata/stratalaw3.RetainNeverSeen", spec := "retainNeverSeen", inPlace := ["internal/bytealg.Compare"], unfollowed := true, recurses := true, apart := false, narrowed := true }
def RetainNeverSeenUptoSaid : Prop := retainNeverSeenUptoRow.holds Try.pinned (OpenSpec.upto retainNeverSeenSpec)

/-- 'stratalaw3.RetainMajorUnseen', WHERE WHAT IT READS IS OF BULK AT MOST 1048576: true; the input reads as it did. -/
def retainMajorUnseenUptoRow : OpenClaim := { program := "ytijhkfhflpmajaa", sum := "16434317c3ecb03a2988c248a4f9dfeea26bcca48764a99d041125d57e7ded02", func := "strata/stratalaw3.RetainMajorUnseen", spec := "retainMajorUnseen", inPlace := ["internal/bytealg.Compare"], unfollowed := true, recurses := true, apart := false, narrowed := true }
def RetainMajorUnseenUptoSaid : Prop := retainMajorUnseenUptoRow.holds Try.pinned (OpenSpec.upto retainMajorUnseenSpec)

/-- 'stratalaw3.RetainAgain', WHERE WHAT IT READS IS OF BULK AT MOST 1048576: true; the input reads as it did. -/
def retainAgainUptoRow : OpenClaim := { program := "ytijhkfhflpmajaa", sum := "16434317c3ecb03a2988c248a4f9dfeea26bcca48764a99d041125d57e7ded02", func := "strata/stratalaw3.RetainAgain", spec := "retainAgain", inPlace := ["internal/bytealg.Compare"], unfollowed := true, recurses := true, apart := false, narrowed := true }
def RetainAgainUptoSaid : Prop := retainAgainUptoRow.holds Try.pinned (OpenSpec.upto retainAgainSpec)

/-- 'stratalaw3.RetainMajorOfMinors', WHERE WHAT IT READS IS OF BULK AT MOST 1048576: true; the input reads as it did. -/
def retainMajorOfMinorsUptoRow : OpenClaim := { program := "ytijhkfhflpmajaa", sum := "16434317c3ecb03a2988c248a4f9dfeea26bcca48764a99d041125d57e7ded02", func := "strata/stratalaw3.RetainMajorOfMinors", spec := "retainMajorOfMinors", inPlace := ["internal/bytealg.Compare"], unfollowed := true, recurses := true, apart := false, narrowed := true }
def RetainMajorOfMinorsUptoSaid : Prop := retainMajorOfMinorsUptoRow.holds Try.pinned (OpenSpec.upto retainMajorOfMinorsSpec)

/-- 'stratalaw3.RetainCollects', WHERE WHAT IT READS IS OF BULK AT MOST 1048576: true; the input reads as it did. -/
def retainCollectsUptoRow : OpenClaim := { program := "ytijhkfhflpmajaa", sum := "16434317c3ecb03a2988c248a4f9dfeea26bcca48764a99d041125d57e7ded02", func := "strata/stratalaw3.RetainCollects", spec := "retainCollects", inPlace := ["internal/bytealg.Compare"], unfollowed := true, recurses := true, apart := false, narrowed := true }
def RetainCollectsUptoSaid : Prop := retainCollectsUptoRow.holds Try.pinned (OpenSpec.upto retainCollectsSpec)

/-- 'stratalaw3.RetainNothingBack', WHERE WHAT IT READS IS OF BULK AT MOST 1048576: true; the input reads as it did. -/
def retainNothingBackUptoRow : OpenClaim := { program := "ytijhkfhflpmajaa", sum := "16434317c3ecb03a2988c248a4f9dfeea26bcca48764a99d041125d57e7ded02", func := "strata/stratalaw3.RetainNothingBack", spec := "retainNothingBack", inPlace := ["internal/bytealg.Compare"], unfollowed := true, recurses := true, apart := false, narrowed := true }
def RetainNothingBackUptoSaid : Prop := retainNothingBackUptoRow.holds Try.pinned (OpenSpec.upto retainNothingBackSpec)

/-- 'stratalaw3.RetainOwn', WHERE WHAT IT READS IS OF BULK AT MOST 1048576: true; the input reads as it did. -/
def retainOwnUptoRow : OpenClaim := { program := "ytijhkfhflpmajaa", sum := "16434317c3ecb03a2988c248a4f9dfeea26bcca48764a99d041125d57e7ded02", func := "strata/stratalaw3.RetainOwn", spec := "retainOwn", inPlace := ["internal/bytealg.Compare"], unfollowed := true, recurses := true, apart := false, narrowed := true }
def RetainOwnUptoSaid : Prop := retainOwnUptoRow.holds Try.pinned (OpenSpec.upto retainOwnSpec)

/-- 'stratalaw3.RetainApart', WHERE WHAT IT READS IS OF BULK AT MOST 1048576: true; the input reads as it did. -/
def retainApartUptoRow : OpenClaim := { program := "ytijhkfhflpmajaa", sum := "16434317c3ecb03a2988c248a4f9dfeea26bcca48764a99d041125d57e7ded02", func := "strata/stratalaw3.RetainApart", spec := "retainApart", inPlace := ["internal/bytealg.Compare"], unfollowed := true, recurses := true, apart := false, narrowed := true }
def RetainApartUptoSaid : Prop := retainApartUptoRow.holds Try.pinned (OpenSpec.upto retainApartSpec)

end Rows
end Go.Proofs.Ytijhkfhflpmajaa
