/-
  No cell of these rows narrows 'for every input' (looked for: loops, veiled, ifaces, maps, wideKeys, modest, calm, conditions, laid).
  DERIVED. THE GIVEN ROWS OF THIS SEAT. 14 by the template 'for every input the law returns true; each argument reads behind the call as it read before'; 0 by the template 'total and deterministic' (their statements: YtcdjeimjbbknjaaTotals.lean).
  GIVEN WITH THE SEED: the statements are not yours to turn. If you find one false, say at which input.
  Laid BY PROGRAM, IN A SANDBOX (cutbox-rows.mjs): the forced cells as the released guide's own fill.sh prints them over the translation 06d41a0cfed3a431… (all of the seat's roots in one cut). By AI agents, Wed Nov 11 2026. No macro, syntax, notation, axiom, sorry.
-/
import Derived.Test.YtcdjeimjbbknjaaChecked
import GoSem.Claim
import GoSem.ClaimJoined
import GoSem.ClaimMapViews
import Derived.JoinedTies
import Derived.KernelRfl
namespace Go.Proofs.Ytcdjeimjbbknjaa
/- THE CELL 'sum', in the pinned program and in every row, IS THE sha256 OF THE DUMP (.gsa) THAT YtcdjeimjbbknjaaProg.lean LOADS. Nothing in Lean hashes anything: it is a label: what it is worth is what the hold of that sum in a sandbox is worth. -/
noncomputable def Try.pinned : Pinned := { name := "ytcdjeimjbbknjaa", sum := "06d41a0cfed3a4317e7f801220fb6081221564a91264ba0ad8af76d2f55313f2", checked := Try.checked }
namespace Rows
def none {H : Type} : Left H := { results := [], args := [] }

/-- 'wordbooklaw15.DawgNumbers': WHATEVER THE INPUT: true; the input reads as it did. -/
def dawgNumbersSpec : ChangeSpec := { name := "dawgNumbers", fn := fun _ => fun
  | [d1, d2, d3, d4] => { results := [.lit (.bool true)], args := [d1, d2, d3, d4] }
  | _ => none }
def dawgNumbersRow : OpenClaim := { program := "ytcdjeimjbbknjaa", sum := "06d41a0cfed3a4317e7f801220fb6081221564a91264ba0ad8af76d2f55313f2", func := "wordbook/wordbooklaw15.DawgNumbers", spec := "dawgNumbers", unfollowed := true, recurses := true, apart := false }
def DawgNumbersSaid : Prop := dawgNumbersRow.holds Try.pinned (OpenSpec.ofChange dawgNumbersSpec)

/-- ITS FALSE NEIGHBOUR: 'it returns false'. Refute it at one input. -/
def dawgNumbersWrong : ChangeSpec := { name := "dawgNumbers", fn := fun _ => fun
  | [d1, d2, d3, d4] => { results := [.lit (.bool false)], args := [d1, d2, d3, d4] }
  | _ => none }
def DawgNumbersWrongFalsely : Prop := dawgNumbersRow.holds Try.pinned (OpenSpec.ofChange dawgNumbersWrong)

/-- 'wordbooklaw15.DawgBuilds': WHATEVER THE INPUT: true; the input reads as it did. -/
def dawgBuildsSpec : ChangeSpec := { name := "dawgBuilds", fn := fun _ => fun
  | [d1, d2, d3, d4] => { results := [.lit (.bool true)], args := [d1, d2, d3, d4] }
  | _ => none }
def dawgBuildsRow : OpenClaim := { program := "ytcdjeimjbbknjaa", sum := "06d41a0cfed3a4317e7f801220fb6081221564a91264ba0ad8af76d2f55313f2", func := "wordbook/wordbooklaw15.DawgBuilds", spec := "dawgBuilds", unfollowed := true, recurses := true, apart := false }
def DawgBuildsSaid : Prop := dawgBuildsRow.holds Try.pinned (OpenSpec.ofChange dawgBuildsSpec)

/-- ITS FALSE NEIGHBOUR: 'it returns false'. Refute it at one input. -/
def dawgBuildsWrong : ChangeSpec := { name := "dawgBuilds", fn := fun _ => fun
  | [d1, d2, d3, d4] => { results := [.lit (.bool false)], args := [d1, d2, d3, d4] }
  | _ => none }
def DawgBuildsWrongFalsely : Prop := dawgBuildsRow.holds Try.pinned (OpenSpec.ofChange dawgBuildsWrong)

/-- 'wordbooklaw15.DawgTwoWay': WHATEVER THE INPUT: true; the input reads as it did. -/
def dawgTwoWaySpec : ChangeSpec := { name := "dawgTwoWay", fn := fun _ => fun
  | [d1, d2] => { results := [.lit (.bool true)], args := [d1, d2] }
  | _ => none }
def dawgTwoWayRow : OpenClaim := { program := "ytcdjeimjbbknjaa", sum := "06d41a0cfed3a4317e7f801220fb6081221564a91264ba0ad8af76d2f55313f2", func := "wordbook/wordbooklaw15.DawgTwoWay", spec := "dawgTwoWay", unfollowed := true, recurses := true, apart := false }
def DawgTwoWaySaid : Prop := dawgTwoWayRow.holds Try.pinned (OpenSpec.ofChange dawgTwoWaySpec)

/-- ITS FALSE NEIGHBOUR: 'it returns false'. Refute it at one input. -/
def dawgTwoWayWrong : ChangeSpec := { name := "dawgTwoWay", fn := fun _ => fun
  | [d1, d2] => { results := [.lit (.bool false)], args := [d1, d2] }
  | _ => none }
def DawgTwoWayWrongFalsely : Prop := dawgTwoWayRow.holds Try.pinned (OpenSpec.ofChange dawgTwoWayWrong)

/-- 'wordbooklaw15.DawgEncodes': WHATEVER THE INPUT: true; the input reads as it did. -/
def dawgEncodesSpec : ChangeSpec := { name := "dawgEncodes", fn := fun _ => fun
  | [d1, d2, d3, d4] => { results := [.lit (.bool true)], args := [d1, d2, d3, d4] }
  | _ => none }
def dawgEncodesRow : OpenClaim := { program := "ytcdjeimjbbknjaa", sum := "06d41a0cfed3a4317e7f801220fb6081221564a91264ba0ad8af76d2f55313f2", func := "wordbook/wordbooklaw15.DawgEncodes", spec := "dawgEncodes", unfollowed := true, recurses := true, apart := false }
def DawgEncodesSaid : Prop := dawgEncodesRow.holds Try.pinned (OpenSpec.ofChange dawgEncodesSpec)

/-- ITS FALSE NEIGHBOUR: 'it returns false'. Refute it at one input. -/
def dawgEncodesWrong : ChangeSpec := { name := "dawgEncodes", fn := fun _ => fun
  | [d1, d2, d3, d4] => { results := [.lit (.bool false)], args := [d1, d2, d3, d4] }
  | _ => none }
def DawgEncodesWrongFalsely : Prop := dawgEncodesRow.holds Try.pinned (OpenSpec.ofChange dawgEncodesWrong)

/-- 'wordbooklaw15.DawgDecodes': WHATEVER THE INPUT: true; the input reads as it did. -/
def dawgDecodesSpec : ChangeSpec := { name := "dawgDecodes", fn := fun _ => fun
  | [d1, d2, d3, d4, d5, d6] => { results := [.lit (.bool true)], args := [d1, d2, d3, d4, d5, d6] }
  | _ => none }
def dawgDecodesRow : OpenClaim := { program := "ytcdjeimjbbknjaa", sum := "06d41a0cfed3a4317e7f801220fb6081221564a91264ba0ad8af76d2f55313f2", func := "wordbook/wordbooklaw15.DawgDecodes", spec := "dawgDecodes", unfollowed := true, recurses := true, apart := false }
def DawgDecodesSaid : Prop := dawgDecodesRow.holds Try.pinned (OpenSpec.ofChange dawgDecodesSpec)

/-- ITS FALSE NEIGHBOUR: 'it returns false'. Refute it at one input. -/
def dawgDecodesWrong : ChangeSpec := { name := "dawgDecodes", fn := fun _ => fun
  | [d1, d2, d3, d4, d5, d6] => { results := [.lit (.bool false)], args := [d1, d2, d3, d4, d5, d6] }
  | _ => none }
def DawgDecodesWrongFalsely : Prop := dawgDecodesRow.holds Try.pinned (OpenSpec.ofChange dawgDecodesWrong)

/-- 'wordbooklaw15.DawgLimits': WHATEVER THE INPUT: true; the input reads as it did. -/
def dawgLimitsSpec : ChangeSpec := { name := "dawgLimits", fn := fun _ => fun
  | [d1, d2, d3] => { results := [.lit (.bool true)], args := [d1, d2, d3] }
  | _ => none }
def dawgLimitsRow : OpenClaim := { program := "ytcdjeimjbbknjaa", sum := "06d41a0cfed3a4317e7f801220fb6081221564a91264ba0ad8af76d2f55313f2", func := "wordbook/wordbooklaw15.DawgLimits", spec := "dawgLimits", unfollowed := true, recurses := true, apart := false }
def DawgLimitsSaid : Prop := dawgLimitsRow.holds Try.pinned (OpenSpec.ofChange dawgLimitsSpec)

/-- ITS FALSE NEIGHBOUR: 'it returns false'. Refute it at one input. -/
def dawgLimitsWrong : ChangeSpec := { name := "dawgLimits", fn := fun _ => fun
  | [d1, d2, d3] => { results := [.lit (.bool false)], args := [d1, d2, d3] }
  | _ => none }
def DawgLimitsWrongFalsely : Prop := dawgLimitsRow.holds Try.pinned (OpenSpec.ofChange dawgLimitsWrong)

/-- 'wordbooklaw15.DawgMinimal': WHATEVER THE INPUT: true; the input reads as it did. -/
def dawgMinimalSpec : ChangeSpec := { name := "dawgMinimal", fn := fun _ => fun
  | [d1, d2] => { results := [.lit (.bool true)], args := [d1, d2] }
  | _ => none }
def dawgMinimalRow : OpenClaim := { program := "ytcdjeimjbbknjaa", sum := "06d41a0cfed3a4317e7f801220fb6081221564a91264ba0ad8af76d2f55313f2", func := "wordbook/wordbooklaw15.DawgMinimal", spec := "dawgMinimal", unfollowed := true, recurses := true, apart := false }
def DawgMinimalSaid : Prop := dawgMinimalRow.holds Try.pinned (OpenSpec.ofChange dawgMinimalSpec)

/-- ITS FALSE NEIGHBOUR: 'it returns false'. Refute it at one input. -/
def dawgMinimalWrong : ChangeSpec := { name := "dawgMinimal", fn := fun _ => fun
  | [d1, d2] => { results := [.lit (.bool false)], args := [d1, d2] }
  | _ => none }
def DawgMinimalWrongFalsely : Prop := dawgMinimalRow.holds Try.pinned (OpenSpec.ofChange dawgMinimalWrong)

/-- 'wordbooklaw16.FuzzyDistances': WHATEVER THE INPUT: true; the input reads as it did. -/
def fuzzyDistancesSpec : ChangeSpec := { name := "fuzzyDistances", fn := fun _ => fun
  | [d1, d2, d3] => { results := [.lit (.bool true)], args := [d1, d2, d3] }
  | _ => none }
def fuzzyDistancesRow : OpenClaim := { program := "ytcdjeimjbbknjaa", sum := "06d41a0cfed3a4317e7f801220fb6081221564a91264ba0ad8af76d2f55313f2", func := "wordbook/wordbooklaw16.FuzzyDistances", spec := "fuzzyDistances", unfollowed := true, recurses := true, apart := false }
def FuzzyDistancesSaid : Prop := fuzzyDistancesRow.holds Try.pinned (OpenSpec.ofChange fuzzyDistancesSpec)

/-- ITS FALSE NEIGHBOUR: 'it returns false'. Refute it at one input. -/
def fuzzyDistancesWrong : ChangeSpec := { name := "fuzzyDistances", fn := fun _ => fun
  | [d1, d2, d3] => { results := [.lit (.bool false)], args := [d1, d2, d3] }
  | _ => none }
def FuzzyDistancesWrongFalsely : Prop := fuzzyDistancesRow.holds Try.pinned (OpenSpec.ofChange fuzzyDistancesWrong)

/-- 'wordbooklaw16.FuzzySearches': WHATEVER THE INPUT: true; the input reads as it did. -/
def fuzzySearchesSpec : ChangeSpec := { name := "fuzzySearches", fn := fun _ => fun
  | [d1, d2, d3] => { results := [.lit (.bool true)], args := [d1, d2, d3] }
  | _ => none }
def fuzzySearchesRow : OpenClaim := { program := "ytcdjeimjbbknjaa", sum := "06d41a0cfed3a4317e7f801220fb6081221564a91264ba0ad8af76d2f55313f2", func := "wordbook/wordbooklaw16.FuzzySearches", spec := "fuzzySearches", unfollowed := true, recurses := true, apart := false }
def FuzzySearchesSaid : Prop := fuzzySearchesRow.holds Try.pinned (OpenSpec.ofChange fuzzySearchesSpec)

/-- ITS FALSE NEIGHBOUR: 'it returns false'. Refute it at one input. -/
def fuzzySearchesWrong : ChangeSpec := { name := "fuzzySearches", fn := fun _ => fun
  | [d1, d2, d3] => { results := [.lit (.bool false)], args := [d1, d2, d3] }
  | _ => none }
def FuzzySearchesWrongFalsely : Prop := fuzzySearchesRow.holds Try.pinned (OpenSpec.ofChange fuzzySearchesWrong)

/-- 'wordbooklaw16.FuzzyMetric': WHATEVER THE INPUT: true; the input reads as it did. -/
def fuzzyMetricSpec : ChangeSpec := { name := "fuzzyMetric", fn := fun _ => fun
  | [d1, d2, d3] => { results := [.lit (.bool true)], args := [d1, d2, d3] }
  | _ => none }
def fuzzyMetricRow : OpenClaim := { program := "ytcdjeimjbbknjaa", sum := "06d41a0cfed3a4317e7f801220fb6081221564a91264ba0ad8af76d2f55313f2", func := "wordbook/wordbooklaw16.FuzzyMetric", spec := "fuzzyMetric", unfollowed := true, recurses := true, apart := false }
def FuzzyMetricSaid : Prop := fuzzyMetricRow.holds Try.pinned (OpenSpec.ofChange fuzzyMetricSpec)

/-- ITS FALSE NEIGHBOUR: 'it returns false'. Refute it at one input. -/
def fuzzyMetricWrong : ChangeSpec := { name := "fuzzyMetric", fn := fun _ => fun
  | [d1, d2, d3] => { results := [.lit (.bool false)], args := [d1, d2, d3] }
  | _ => none }
def FuzzyMetricWrongFalsely : Prop := fuzzyMetricRow.holds Try.pinned (OpenSpec.ofChange fuzzyMetricWrong)

/-- 'wordbooklaw16.FuzzyEdits': WHATEVER THE INPUT: true; the input reads as it did. -/
def fuzzyEditsSpec : ChangeSpec := { name := "fuzzyEdits", fn := fun _ => fun
  | [d1, d2, d3, d4, d5] => { results := [.lit (.bool true)], args := [d1, d2, d3, d4, d5] }
  | _ => none }
def fuzzyEditsRow : OpenClaim := { program := "ytcdjeimjbbknjaa", sum := "06d41a0cfed3a4317e7f801220fb6081221564a91264ba0ad8af76d2f55313f2", func := "wordbook/wordbooklaw16.FuzzyEdits", spec := "fuzzyEdits", unfollowed := true, recurses := true, apart := false }
def FuzzyEditsSaid : Prop := fuzzyEditsRow.holds Try.pinned (OpenSpec.ofChange fuzzyEditsSpec)

/-- ITS FALSE NEIGHBOUR: 'it returns false'. Refute it at one input. -/
def fuzzyEditsWrong : ChangeSpec := { name := "fuzzyEdits", fn := fun _ => fun
  | [d1, d2, d3, d4, d5] => { results := [.lit (.bool false)], args := [d1, d2, d3, d4, d5] }
  | _ => none }
def FuzzyEditsWrongFalsely : Prop := fuzzyEditsRow.holds Try.pinned (OpenSpec.ofChange fuzzyEditsWrong)

/-- 'wordbooklaw16.FuzzyAffixes': WHATEVER THE INPUT: true; the input reads as it did. -/
def fuzzyAffixesSpec : ChangeSpec := { name := "fuzzyAffixes", fn := fun _ => fun
  | [d1, d2, d3, d4] => { results := [.lit (.bool true)], args := [d1, d2, d3, d4] }
  | _ => none }
def fuzzyAffixesRow : OpenClaim := { program := "ytcdjeimjbbknjaa", sum := "06d41a0cfed3a4317e7f801220fb6081221564a91264ba0ad8af76d2f55313f2", func := "wordbook/wordbooklaw16.FuzzyAffixes", spec := "fuzzyAffixes", unfollowed := true, recurses := true, apart := false }
def FuzzyAffixesSaid : Prop := fuzzyAffixesRow.holds Try.pinned (OpenSpec.ofChange fuzzyAffixesSpec)

/-- ITS FALSE NEIGHBOUR: 'it returns false'. Refute it at one input. -/
def fuzzyAffixesWrong : ChangeSpec := { name := "fuzzyAffixes", fn := fun _ => fun
  | [d1, d2, d3, d4] => { results := [.lit (.bool false)], args := [d1, d2, d3, d4] }
  | _ => none }
def FuzzyAffixesWrongFalsely : Prop := fuzzyAffixesRow.holds Try.pinned (OpenSpec.ofChange fuzzyAffixesWrong)

/-- 'wordbooklaw16.FuzzyBounds': WHATEVER THE INPUT: true; the input reads as it did. -/
def fuzzyBoundsSpec : ChangeSpec := { name := "fuzzyBounds", fn := fun _ => fun
  | [d1, d2, d3] => { results := [.lit (.bool true)], args := [d1, d2, d3] }
  | _ => none }
def fuzzyBoundsRow : OpenClaim := { program := "ytcdjeimjbbknjaa", sum := "06d41a0cfed3a4317e7f801220fb6081221564a91264ba0ad8af76d2f55313f2", func := "wordbook/wordbooklaw16.FuzzyBounds", spec := "fuzzyBounds", unfollowed := true, recurses := true, apart := false }
def FuzzyBoundsSaid : Prop := fuzzyBoundsRow.holds Try.pinned (OpenSpec.ofChange fuzzyBoundsSpec)

/-- ITS FALSE NEIGHBOUR: 'it returns false'. Refute it at one input. -/
def fuzzyBoundsWrong : ChangeSpec := { name := "fuzzyBounds", fn := fun _ => fun
  | [d1, d2, d3] => { results := [.lit (.bool false)], args := [d1, d2, d3] }
  | _ => none }
def FuzzyBoundsWrongFalsely : Prop := fuzzyBoundsRow.holds Try.pinned (OpenSpec.ofChange fuzzyBoundsWrong)

/-- 'wordbooklaw16.FuzzyFinds': WHATEVER THE INPUT: true; the input reads as it did. -/
def fuzzyFindsSpec : ChangeSpec := { name := "fuzzyFinds", fn := fun _ => fun
  | [d1, d2, d3] => { results := [.lit (.bool true)], args := [d1, d2, d3] }
  | _ => none }
def fuzzyFindsRow : OpenClaim := { program := "ytcdjeimjbbknjaa", sum := "06d41a0cfed3a4317e7f801220fb6081221564a91264ba0ad8af76d2f55313f2", func := "wordbook/wordbooklaw16.FuzzyFinds", spec := "fuzzyFinds", inPlace := ["internal/bytealg.IndexByteString", "internal/abi.NoEscape"], unfollowed := true, recurses := true, apart := false }
def FuzzyFindsSaid : Prop := fuzzyFindsRow.holds Try.pinned (OpenSpec.ofChange fuzzyFindsSpec)

/-- ITS FALSE NEIGHBOUR: 'it returns false'. Refute it at one input. -/
def fuzzyFindsWrong : ChangeSpec := { name := "fuzzyFinds", fn := fun _ => fun
  | [d1, d2, d3] => { results := [.lit (.bool false)], args := [d1, d2, d3] }
  | _ => none }
def FuzzyFindsWrongFalsely : Prop := fuzzyFindsRow.holds Try.pinned (OpenSpec.ofChange fuzzyFindsWrong)

/- THE SECOND FORM. 'bulk': how many values and letters a reading holds, each counted each time it is reached (what is shared counts as often as it is met; a slice's spare places count too). A statement '..UptoSaid' is the law's where the arguments, and the package variables that the reading takes, are together of bulk at most 1048576: NARROWER than '..Said'. Prove '..Said' where nothing that the law and all that it calls make is longer than what came in: it says more and counts as full. Else prove '..UptoSaid'. A law counts once. -/
mutual
def uptoBulk {H : Type} : DataW H → Nat
  | .lit (.string bytes) => bytes.length + 1
  | .lit _ => 1
  | .nil => 1
  | .ptr d => uptoBulk d + 1
  | .slice elems spare => uptoBulkAll elems + uptoBulkAll spare + 1
  | .agg parts => uptoBulkAll parts + 1
  | .iface _ d => uptoBulk d + 1
  | .map entries => uptoBulkEntries entries + 1
  | .held _ => 1
def uptoBulkAll {H : Type} : List (DataW H) → Nat
  | [] => 0
  | d :: r => uptoBulk d + uptoBulkAll r
def uptoBulkEntries {H : Type} : List (Lit × DataW H) → Nat
  | [] => 0
  | x :: r => uptoBulkEntry x + uptoBulkEntries r
def uptoBulkEntry {H : Type} : Lit × DataW H → Nat
  | (.string bytes, d) => bytes.length + uptoBulk d + 1
  | (_, d) => uptoBulk d + 1
 end
def uptoSmall : (H : Type) → List (DataW H) → Bool := fun _ ds => decide (uptoBulkAll ds ≤ 1048576)
def OpenSpec.upto (s : _root_.Go.ChangeSpec) : _root_.Go.OpenSpec := { _root_.Go.OpenSpec.ofChange s with cond := some uptoSmall }

/-- 'wordbooklaw15.DawgNumbers', WHERE WHAT IT READS IS OF BULK AT MOST 1048576: true; the input reads as it did. -/
def dawgNumbersUptoRow : OpenClaim := { program := "ytcdjeimjbbknjaa", sum := "06d41a0cfed3a4317e7f801220fb6081221564a91264ba0ad8af76d2f55313f2", func := "wordbook/wordbooklaw15.DawgNumbers", spec := "dawgNumbers", unfollowed := true, recurses := true, apart := false, narrowed := true }
def DawgNumbersUptoSaid : Prop := dawgNumbersUptoRow.holds Try.pinned (OpenSpec.upto dawgNumbersSpec)

/-- 'wordbooklaw15.DawgBuilds', WHERE WHAT IT READS IS OF BULK AT MOST 1048576: true; the input reads as it did. -/
def dawgBuildsUptoRow : OpenClaim := { program := "ytcdjeimjbbknjaa", sum := "06d41a0cfed3a4317e7f801220fb6081221564a91264ba0ad8af76d2f55313f2", func := "wordbook/wordbooklaw15.DawgBuilds", spec := "dawgBuilds", unfollowed := true, recurses := true, apart := false, narrowed := true }
def DawgBuildsUptoSaid : Prop := dawgBuildsUptoRow.holds Try.pinned (OpenSpec.upto dawgBuildsSpec)

/-- 'wordbooklaw15.DawgTwoWay', WHERE WHAT IT READS IS OF BULK AT MOST 1048576: true; the input reads as it did. -/
def dawgTwoWayUptoRow : OpenClaim := { program := "ytcdjeimjbbknjaa", sum := "06d41a0cfed3a4317e7f801220fb6081221564a91264ba0ad8af76d2f55313f2", func := "wordbook/wordbooklaw15.DawgTwoWay", spec := "dawgTwoWay", unfollowed := true, recurses := true, apart := false, narrowed := true }
def DawgTwoWayUptoSaid : Prop := dawgTwoWayUptoRow.holds Try.pinned (OpenSpec.upto dawgTwoWaySpec)

/-- 'wordbooklaw15.DawgEncodes', WHERE WHAT IT READS IS OF BULK AT MOST 1048576: true; the input reads as it did. -/
def dawgEncodesUptoRow : OpenClaim := { program := "ytcdjeimjbbknjaa", sum := "06d41a0cfed3a4317e7f801220fb6081221564a91264ba0ad8af76d2f55313f2", func := "wordbook/wordbooklaw15.DawgEncodes", spec := "dawgEncodes", unfollowed := true, recurses := true, apart := false, narrowed := true }
def DawgEncodesUptoSaid : Prop := dawgEncodesUptoRow.holds Try.pinned (OpenSpec.upto dawgEncodesSpec)

/-- 'wordbooklaw15.DawgDecodes', WHERE WHAT IT READS IS OF BULK AT MOST 1048576: true; the input reads as it did. -/
def dawgDecodesUptoRow : OpenClaim := { program := "ytcdjeimjbbknjaa", sum := "06d41a0cfed3a4317e7f801220fb6081221564a91264ba0ad8af76d2f55313f2", func := "wordbook/wordbooklaw15.DawgDecodes", spec := "dawgDecodes", unfollowed := true, recurses := true, apart := false, narrowed := true }
def DawgDecodesUptoSaid : Prop := dawgDecodesUptoRow.holds Try.pinned (OpenSpec.upto dawgDecodesSpec)

/-- 'wordbooklaw15.DawgLimits', WHERE WHAT IT READS IS OF BULK AT MOST 1048576: true; the input reads as it did. -/
def dawgLimitsUptoRow : OpenClaim := { program := "ytcdjeimjbbknjaa", sum := "06d41a0cfed3a4317e7f801220fb6081221564a91264ba0ad8af76d2f55313f2", func := "wordbook/wordbooklaw15.DawgLimits", spec := "dawgLimits", unfollowed := true, recurses := true, apart := false, narrowed := true }
def DawgLimitsUptoSaid : Prop := dawgLimitsUptoRow.holds Try.pinned (OpenSpec.upto dawgLimitsSpec)

/-- 'wordbooklaw15.DawgMinimal', WHERE WHAT IT READS IS OF BULK AT MOST 1048576: true; the input reads as it did. -/
def dawgMinimalUptoRow : OpenClaim := { program := "ytcdjeimjbbknjaa", sum := "06d41a0cfed3a4317e7f801220fb6081221564a91264ba0ad8af76d2f55313f2", func := "wordbook/wordbooklaw15.DawgMinimal", spec := "dawgMinimal", unfollowed := true, recurses := true, apart := false, narrowed := true }
def DawgMinimalUptoSaid : Prop := dawgMinimalUptoRow.holds Try.pinned (OpenSpec.upto dawgMinimalSpec)

/-- 'wordbooklaw16.FuzzyDistances', WHERE WHAT IT READS IS OF BULK AT MOST 1048576: true; the input reads as it did. -/
def fuzzyDistancesUptoRow : OpenClaim := { program := "ytcdjeimjbbknjaa", sum := "06d41a0cfed3a4317e7f801220fb6081221564a91264ba0ad8af76d2f55313f2", func := "wordbook/wordbooklaw16.FuzzyDistances", spec := "fuzzyDistances", unfollowed := true, recurses := true, apart := false, narrowed := true }
def FuzzyDistancesUptoSaid : Prop := fuzzyDistancesUptoRow.holds Try.pinned (OpenSpec.upto fuzzyDistancesSpec)

/-- 'wordbooklaw16.FuzzySearches', WHERE WHAT IT READS IS OF BULK AT MOST 1048576: true; the input reads as it did. -/
def fuzzySearchesUptoRow : OpenClaim := { program := "ytcdjeimjbbknjaa", sum := "06d41a0cfed3a4317e7f801220fb6081221564a91264ba0ad8af76d2f55313f2", func := "wordbook/wordbooklaw16.FuzzySearches", spec := "fuzzySearches", unfollowed := true, recurses := true, apart := false, narrowed := true }
def FuzzySearchesUptoSaid : Prop := fuzzySearchesUptoRow.holds Try.pinned (OpenSpec.upto fuzzySearchesSpec)

/-- 'wordbooklaw16.FuzzyMetric', WHERE WHAT IT READS IS OF BULK AT MOST 1048576: true; the input reads as it did. -/
def fuzzyMetricUptoRow : OpenClaim := { program := "ytcdjeimjbbknjaa", sum := "06d41a0cfed3a4317e7f801220fb6081221564a91264ba0ad8af76d2f55313f2", func := "wordbook/wordbooklaw16.FuzzyMetric", spec := "fuzzyMetric", unfollowed := true, recurses := true, apart := false, narrowed := true }
def FuzzyMetricUptoSaid : Prop := fuzzyMetricUptoRow.holds Try.pinned (OpenSpec.upto fuzzyMetricSpec)

/-- 'wordbooklaw16.FuzzyEdits', WHERE WHAT IT READS IS OF BULK AT MOST 1048576: true; the input reads as it did. -/
def fuzzyEditsUptoRow : OpenClaim := { program := "ytcdjeimjbbknjaa", sum := "06d41a0cfed3a4317e7f801220fb6081221564a91264ba0ad8af76d2f55313f2", func := "wordbook/wordbooklaw16.FuzzyEdits", spec := "fuzzyEdits", unfollowed := true, recurses := true, apart := false, narrowed := true }
def FuzzyEditsUptoSaid : Prop := fuzzyEditsUptoRow.holds Try.pinned (OpenSpec.upto fuzzyEditsSpec)

/-- 'wordbooklaw16.FuzzyAffixes', WHERE WHAT IT READS IS OF BULK AT MOST 1048576: true; the input reads as it did. -/
def fuzzyAffixesUptoRow : OpenClaim := { program := "ytcdjeimjbbknjaa", sum := "06d41a0cfed3a4317e7f801220fb6081221564a91264ba0ad8af76d2f55313f2", func := "wordbook/wordbooklaw16.FuzzyAffixes", spec := "fuzzyAffixes", unfollowed := true, recurses := true, apart := false, narrowed := true }
def FuzzyAffixesUptoSaid : Prop := fuzzyAffixesUptoRow.holds Try.pinned (OpenSpec.upto fuzzyAffixesSpec)

/-- 'wordbooklaw16.FuzzyBounds', WHERE WHAT IT READS IS OF BULK AT MOST 1048576: true; the input reads as it did. -/
def fuzzyBoundsUptoRow : OpenClaim := { program := "ytcdjeimjbbknjaa", sum := "06d41a0cfed3a4317e7f801220fb6081221564a91264ba0ad8af76d2f55313f2", func := "wordbook/wordbooklaw16.FuzzyBounds", spec := "fuzzyBounds", unfollowed := true, recurses := true, apart := false, narrowed := true }
def FuzzyBoundsUptoSaid : Prop := fuzzyBoundsUptoRow.holds Try.pinned (OpenSpec.upto fuzzyBoundsSpec)

/-- 'wordbooklaw16.FuzzyFinds', WHERE WHAT IT READS IS OF BULK AT MOST 1048576: true; the input reads as it did. -/
def fuzzyFindsUptoRow : OpenClaim := { program := "ytcdjeimjbbknjaa", sum := "06d41a0cfed3a4317e7f801220fb6081221564a91264ba0ad8af76d2f55313f2", func := "wordbook/wordbooklaw16.FuzzyFinds", spec := "fuzzyFinds", inPlace := ["internal/bytealg.IndexByteString", "internal/abi.NoEscape"], unfollowed := true, recurses := true, apart := false, narrowed := true }
def FuzzyFindsUptoSaid : Prop := fuzzyFindsUptoRow.holds Try.pinned (OpenSpec.upto fuzzyFindsSpec)

end Rows
end Go.Proofs.Ytcdjeimjbbknjaa
