/-
  No cell of these rows narrows 'for every input' (looked for: loops, veiled, ifaces, maps, wideKeys, modest, calm, conditions, laid).
  DERIVED. THE GIVEN ROWS OF THIS SEAT. 7 by the template 'for every input the law returns true; each argument reads behind the call as it read before'; 0 by the template 'total and deterministic' (their statements: YtijhkfhflpmajaaGreatTotals.lean).
  GIVEN WITH THE SEED: the statements are not yours to turn. If you find one false, say at which input.
  Laid BY PROGRAM, IN A SANDBOX (cutbox-rows.mjs): the forced cells as the released guide's own fill.sh prints them over the translation ffcaa160aa07349c… (all of the seat's roots in one cut). By AI agents, Wed Nov 11 2026. No macro, syntax, notation, axiom, sorry.
-/
import Derived.Test.YtijhkfhflpmajaaGreatChecked
import GoSem.Claim
import GoSem.ClaimJoined
import GoSem.ClaimMapViews
import Derived.JoinedTies
import Derived.KernelRfl
namespace Go.Proofs.YtijhkfhflpmajaaGreat
/- THE CELL 'sum', in the pinned program and in every row, IS THE sha256 OF THE DUMP (.gsa) THAT YtijhkfhflpmajaaGreatProg.lean LOADS. Nothing in Lean hashes anything: it is a label: what it is worth is what the hold of that sum in a sandbox is worth. -/
noncomputable def Tryz.pinned : Pinned := { name := "ytijhkfhflpmajaagreat", sum := "ffcaa160aa07349c8e4d9a69a7d92dd9f2fcc7d2b81956a4d0f10b46855d1d70", checked := Tryz.checked }
namespace Rows
def none {H : Type} : Left H := { results := [], args := [] }

/-- 'stratalaw3.RetainSorts': WHATEVER THE INPUT: true; the input reads as it did. -/
def retainSortsSpec : ChangeSpec := { name := "retainSorts", fn := fun _ => fun
  | [d] => { results := [.lit (.bool true)], args := [d] }
  | _ => none }
def retainSortsRow : OpenClaim := { program := "ytijhkfhflpmajaagreat", sum := "ffcaa160aa07349c8e4d9a69a7d92dd9f2fcc7d2b81956a4d0f10b46855d1d70", func := "strata/stratalaw3.RetainSorts", spec := "retainSorts", inPlace := ["internal/bytealg.Compare"], unfollowed := true, recurses := true, apart := false }
def RetainSortsSaid : Prop := retainSortsRow.holds Tryz.pinned (OpenSpec.ofChange retainSortsSpec)

/-- ITS FALSE NEIGHBOUR: 'it returns false'. Refute it at one input. -/
def retainSortsWrong : ChangeSpec := { name := "retainSorts", fn := fun _ => fun
  | [d] => { results := [.lit (.bool false)], args := [d] }
  | _ => none }
def RetainSortsWrongFalsely : Prop := retainSortsRow.holds Tryz.pinned (OpenSpec.ofChange retainSortsWrong)

/-- 'stratalaw3.RetainShows': WHATEVER THE INPUT: true; the input reads as it did. -/
def retainShowsSpec : ChangeSpec := { name := "retainShows", fn := fun _ => fun
  | [d] => { results := [.lit (.bool true)], args := [d] }
  | _ => none }
def retainShowsRow : OpenClaim := { program := "ytijhkfhflpmajaagreat", sum := "ffcaa160aa07349c8e4d9a69a7d92dd9f2fcc7d2b81956a4d0f10b46855d1d70", func := "strata/stratalaw3.RetainShows", spec := "retainShows", inPlace := ["internal/bytealg.Compare"], unfollowed := true, recurses := true, apart := false }
def RetainShowsSaid : Prop := retainShowsRow.holds Tryz.pinned (OpenSpec.ofChange retainShowsSpec)

/-- ITS FALSE NEIGHBOUR: 'it returns false'. Refute it at one input. -/
def retainShowsWrong : ChangeSpec := { name := "retainShows", fn := fun _ => fun
  | [d] => { results := [.lit (.bool false)], args := [d] }
  | _ => none }
def RetainShowsWrongFalsely : Prop := retainShowsRow.holds Tryz.pinned (OpenSpec.ofChange retainShowsWrong)

/-- 'stratalaw3.RetainSquashes': WHATEVER THE INPUT: true; the input reads as it did. -/
def retainSquashesSpec : ChangeSpec := { name := "retainSquashes", fn := fun _ => fun
  | [d] => { results := [.lit (.bool true)], args := [d] }
  | _ => none }
def retainSquashesRow : OpenClaim := { program := "ytijhkfhflpmajaagreat", sum := "ffcaa160aa07349c8e4d9a69a7d92dd9f2fcc7d2b81956a4d0f10b46855d1d70", func := "strata/stratalaw3.RetainSquashes", spec := "retainSquashes", inPlace := ["internal/bytealg.Compare"], unfollowed := true, recurses := true, apart := false }
def RetainSquashesSaid : Prop := retainSquashesRow.holds Tryz.pinned (OpenSpec.ofChange retainSquashesSpec)

/-- ITS FALSE NEIGHBOUR: 'it returns false'. Refute it at one input. -/
def retainSquashesWrong : ChangeSpec := { name := "retainSquashes", fn := fun _ => fun
  | [d] => { results := [.lit (.bool false)], args := [d] }
  | _ => none }
def RetainSquashesWrongFalsely : Prop := retainSquashesRow.holds Tryz.pinned (OpenSpec.ofChange retainSquashesWrong)

/-- 'stratalaw3.RetainPlays': WHATEVER THE INPUT: true; the input reads as it did. -/
def retainPlaysSpec : ChangeSpec := { name := "retainPlays", fn := fun _ => fun
  | [d] => { results := [.lit (.bool true)], args := [d] }
  | _ => none }
def retainPlaysRow : OpenClaim := { program := "ytijhkfhflpmajaagreat", sum := "ffcaa160aa07349c8e4d9a69a7d92dd9f2fcc7d2b81956a4d0f10b46855d1d70", func := "strata/stratalaw3.RetainPlays", spec := "retainPlays", inPlace := ["internal/bytealg.Compare"], unfollowed := true, recurses := true, apart := false }
def RetainPlaysSaid : Prop := retainPlaysRow.holds Tryz.pinned (OpenSpec.ofChange retainPlaysSpec)

/-- ITS FALSE NEIGHBOUR: 'it returns false'. Refute it at one input. -/
def retainPlaysWrong : ChangeSpec := { name := "retainPlays", fn := fun _ => fun
  | [d] => { results := [.lit (.bool false)], args := [d] }
  | _ => none }
def RetainPlaysWrongFalsely : Prop := retainPlaysRow.holds Tryz.pinned (OpenSpec.ofChange retainPlaysWrong)

/-- 'stratalaw3.RetainLent': WHATEVER THE INPUT: true; the input reads as it did. -/
def retainLentSpec : ChangeSpec := { name := "retainLent", fn := fun _ => fun
  | [d1, d2] => { results := [.lit (.bool true)], args := [d1, d2] }
  | _ => none }
def retainLentRow : OpenClaim := { program := "ytijhkfhflpmajaagreat", sum := "ffcaa160aa07349c8e4d9a69a7d92dd9f2fcc7d2b81956a4d0f10b46855d1d70", func := "strata/stratalaw3.RetainLent", spec := "retainLent", inPlace := ["internal/bytealg.Compare"], unfollowed := true, recurses := true, apart := false }
def RetainLentSaid : Prop := retainLentRow.holds Tryz.pinned (OpenSpec.ofChange retainLentSpec)

/-- ITS FALSE NEIGHBOUR: 'it returns false'. Refute it at one input. -/
def retainLentWrong : ChangeSpec := { name := "retainLent", fn := fun _ => fun
  | [d1, d2] => { results := [.lit (.bool false)], args := [d1, d2] }
  | _ => none }
def RetainLentWrongFalsely : Prop := retainLentRow.holds Tryz.pinned (OpenSpec.ofChange retainLentWrong)

/-- 'stratalaw3.RetainFilters': WHATEVER THE INPUT: true; the input reads as it did. -/
def retainFiltersSpec : ChangeSpec := { name := "retainFilters", fn := fun _ => fun
  | [d1, d2, d3, d4] => { results := [.lit (.bool true)], args := [d1, d2, d3, d4] }
  | _ => none }
def retainFiltersRow : OpenClaim := { program := "ytijhkfhflpmajaagreat", sum := "ffcaa160aa07349c8e4d9a69a7d92dd9f2fcc7d2b81956a4d0f10b46855d1d70", func := "strata/stratalaw3.RetainFilters", spec := "retainFilters", inPlace := ["internal/bytealg.Compare"], unfollowed := true, recurses := true, apart := false }
def RetainFiltersSaid : Prop := retainFiltersRow.holds Tryz.pinned (OpenSpec.ofChange retainFiltersSpec)

/-- ITS FALSE NEIGHBOUR: 'it returns false'. Refute it at one input. -/
def retainFiltersWrong : ChangeSpec := { name := "retainFilters", fn := fun _ => fun
  | [d1, d2, d3, d4] => { results := [.lit (.bool false)], args := [d1, d2, d3, d4] }
  | _ => none }
def RetainFiltersWrongFalsely : Prop := retainFiltersRow.holds Tryz.pinned (OpenSpec.ofChange retainFiltersWrong)

/-- 'stratalaw3.RetainReaders': WHATEVER THE INPUT: true; the input reads as it did. -/
def retainReadersSpec : ChangeSpec := { name := "retainReaders", fn := fun _ => fun
  | [d1, d2, d3, d4] => { results := [.lit (.bool true)], args := [d1, d2, d3, d4] }
  | _ => none }
def retainReadersRow : OpenClaim := { program := "ytijhkfhflpmajaagreat", sum := "ffcaa160aa07349c8e4d9a69a7d92dd9f2fcc7d2b81956a4d0f10b46855d1d70", func := "strata/stratalaw3.RetainReaders", spec := "retainReaders", inPlace := ["internal/bytealg.Compare"], unfollowed := true, recurses := true, apart := false }
def RetainReadersSaid : Prop := retainReadersRow.holds Tryz.pinned (OpenSpec.ofChange retainReadersSpec)

/-- ITS FALSE NEIGHBOUR: 'it returns false'. Refute it at one input. -/
def retainReadersWrong : ChangeSpec := { name := "retainReaders", fn := fun _ => fun
  | [d1, d2, d3, d4] => { results := [.lit (.bool false)], args := [d1, d2, d3, d4] }
  | _ => none }
def RetainReadersWrongFalsely : Prop := retainReadersRow.holds Tryz.pinned (OpenSpec.ofChange retainReadersWrong)

/- THE SECOND FORM. 'bulk': how many values and letters a reading holds, each counted each time it is reached (what is shared counts as often as it is met; a slice's spare places count too). A statement '..UptoSaid' is the law's where the arguments, and the package variables that the reading takes, are together of bulk at most 1048576: NARROWER than '..Said'. Prove '..Said' where nothing that the law and all that it calls make is longer than what came in: it says more and counts as full. Else prove '..UptoSaid'. A law counts once. -/
mutual
def uptoBulk {H : Type} : DataW H → Nat
  | .lit (.string bytes) => bytes.length + 1
  | .lit _ => 1
  | .nil => 1
  | .ptr d => uptoBulk d + 1
  | .slice elems spare => uptoBulkAll elems + uptoBulkAll spare + 1
  | .agg parts => uptoBulkAll parts + 1
  | .iface _ d => uptoBulk d + 1
  | .map entries => uptoBulkEntries entries + 1
  | .held _ => 1
def uptoBulkAll {H : Type} : List (DataW H) → Nat
  | [] => 0
  | d :: r => uptoBulk d + uptoBulkAll r
def uptoBulkEntries {H : Type} : List (Lit × DataW H) → Nat
  | [] => 0
  | x :: r => uptoBulkEntry x + uptoBulkEntries r
def uptoBulkEntry {H : Type} : Lit × DataW H → Nat
  | (.string bytes, d) => bytes.length + uptoBulk d + 1
  | (_, d) => uptoBulk d + 1
 end
def uptoSmall : (H : Type) → List (DataW H) → Bool := fun _ ds => decide (uptoBulkAll ds ≤ 1048576)
def OpenSpec.upto (s : _root_.Go.ChangeSpec) : _root_.Go.OpenSpec := { _root_.Go.OpenSpec.ofChange s with cond := some uptoSmall }

/-- 'stratalaw3.RetainSorts', WHERE WHAT IT READS IS OF BULK AT MOST 1048576: true; the input reads as it did. -/
def retainSortsUptoRow : OpenClaim := { program := "ytijhkfhflpmajaagreat", sum := "ffcaa160aa07349c8e4d9a69a7d92dd9f2fcc7d2b81956a4d0f10b46855d1d70", func := "strata/stratalaw3.RetainSorts", spec := "retainSorts", inPlace := ["internal/bytealg.Compare"], unfollowed := true, recurses := true, apart := false, narrowed := true }
def RetainSortsUptoSaid : Prop := retainSortsUptoRow.holds Tryz.pinned (OpenSpec.upto retainSortsSpec)

/-- 'stratalaw3.RetainShows', WHERE WHAT IT READS IS OF BULK AT MOST 1048576: true; the input reads as it did. -/
def retainShowsUptoRow : OpenClaim := { program := "ytijhkfhflpmajaagreat", sum := "ffcaa160aa07349c8e4d9a69a7d92dd9f2fcc7d2b81956a4d0f10b46855d1d70", func := "strata/stratalaw3.RetainShows", spec := "retainShows", inPlace := ["internal/bytealg.Compare"], unfollowed := true, recurses := true, apart := false, narrowed := true }
def RetainShowsUptoSaid : Prop := retainShowsUptoRow.holds Tryz.pinned (OpenSpec.upto retainShowsSpec)

/-- 'stratalaw3.RetainSquashes', WHERE WHAT IT READS IS OF BULK AT MOST 1048576: true; the input reads as it did. -/
def retainSquashesUptoRow : OpenClaim := { program := "ytijhkfhflpmajaagreat", sum := "ffcaa160aa07349c8e4d9a69a7d92dd9f2fcc7d2b81956a4d0f10b46855d1d70", func := "strata/stratalaw3.RetainSquashes", spec := "retainSquashes", inPlace := ["internal/bytealg.Compare"], unfollowed := true, recurses := true, apart := false, narrowed := true }
def RetainSquashesUptoSaid : Prop := retainSquashesUptoRow.holds Tryz.pinned (OpenSpec.upto retainSquashesSpec)

/-- 'stratalaw3.RetainPlays', WHERE WHAT IT READS IS OF BULK AT MOST 1048576: true; the input reads as it did. -/
def retainPlaysUptoRow : OpenClaim := { program := "ytijhkfhflpmajaagreat", sum := "ffcaa160aa07349c8e4d9a69a7d92dd9f2fcc7d2b81956a4d0f10b46855d1d70", func := "strata/stratalaw3.RetainPlays", spec := "retainPlays", inPlace := ["internal/bytealg.Compare"], unfollowed := true, recurses := true, apart := false, narrowed := true }
def RetainPlaysUptoSaid : Prop := retainPlaysUptoRow.holds Tryz.pinned (OpenSpec.upto retainPlaysSpec)

/-- 'stratalaw3.RetainLent', WHERE WHAT IT READS IS OF BULK AT MOST 1048576: true; the input reads as it did. -/
def retainLentUptoRow : OpenClaim := { program := "ytijhkfhflpmajaagreat", sum := "ffcaa160aa07349c8e4d9a69a7d92dd9f2fcc7d2b81956a4d0f10b46855d1d70", func := "strata/stratalaw3.RetainLent", spec := "retainLent", inPlace := ["internal/bytealg.Compare"], unfollowed := true, recurses := true, apart := false, narrowed := true }
def RetainLentUptoSaid : Prop := retainLentUptoRow.holds Tryz.pinned (OpenSpec.upto retainLentSpec)

/-- 'stratalaw3.RetainFilters', WHERE WHAT IT READS IS OF BULK AT MOST 1048576: true; the input reads as it did. -/
def retainFiltersUptoRow : OpenClaim := { program := "ytijhkfhflpmajaagreat", sum := "ffcaa160aa07349c8e4d9a69a7d92dd9f2fcc7d2b81956a4d0f10b46855d1d70", func := "strata/stratalaw3.RetainFilters", spec := "retainFilters", inPlace := ["internal/bytealg.Compare"], unfollowed := true, recurses := true, apart := false, narrowed := true }
def RetainFiltersUptoSaid : Prop := retainFiltersUptoRow.holds Tryz.pinned (OpenSpec.upto retainFiltersSpec)

/-- 'stratalaw3.RetainReaders', WHERE WHAT IT READS IS OF BULK AT MOST 1048576: true; the input reads as it did. -/
def retainReadersUptoRow : OpenClaim := { program := "ytijhkfhflpmajaagreat", sum := "ffcaa160aa07349c8e4d9a69a7d92dd9f2fcc7d2b81956a4d0f10b46855d1d70", func := "strata/stratalaw3.RetainReaders", spec := "retainReaders", inPlace := ["internal/bytealg.Compare"], unfollowed := true, recurses := true, apart := false, narrowed := true }
def RetainReadersUptoSaid : Prop := retainReadersUptoRow.holds Tryz.pinned (OpenSpec.upto retainReadersSpec)

end Rows
end Go.Proofs.YtijhkfhflpmajaaGreat
