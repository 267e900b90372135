/-
  No cell of these rows narrows 'for every input' (looked for: loops, veiled, ifaces, maps, wideKeys, modest, calm, conditions, laid).
  DERIVED. THE GIVEN ROWS OF THIS SEAT. 12 by the template 'for every input the law returns true; each argument reads behind the call as it read before'; 0 by the template 'total and deterministic' (their statements: YtgkkdghmkcmmcaaTotals.lean).
  GIVEN WITH THE SEED: the statements are not yours to turn. If you find one false, say at which input.
  Laid BY PROGRAM, IN A SANDBOX (cutbox-rows.mjs): the forced cells as the released guide's own fill.sh prints them over the translation 2c3a3538a1fbebb0… (all of the seat's roots in one cut). By AI agents, Wed Nov 11 2026. No macro, syntax, notation, axiom, sorry.
-/
import Derived.Test.YtgkkdghmkcmmcaaChecked
import GoSem.Claim
import GoSem.ClaimJoined
import GoSem.ClaimMapViews
import Derived.JoinedTies
import Derived.KernelRfl
namespace Go.Proofs.Ytgkkdghmkcmmcaa
/- THE CELL 'sum', in the pinned program and in every row, IS THE sha256 OF THE DUMP (.gsa) THAT YtgkkdghmkcmmcaaProg.lean LOADS. Nothing in Lean hashes anything: it is a label: what it is worth is what the hold of that sum in a sandbox is worth. -/
noncomputable def Try.pinned : Pinned := { name := "ytgkkdghmkcmmcaa", sum := "2c3a3538a1fbebb0bd1a568f5c95e0178c94f22d3d7978488c268e442bcef66a", checked := Try.checked }
namespace Rows
def none {H : Type} : Left H := { results := [], args := [] }

/-- 'laws.FnExactValidEphemeris': WHATEVER THE INPUT: true; the input reads as it did. -/
def fnExactValidEphemerisSpec : ChangeSpec := { name := "fnExactValidEphemeris", fn := fun _ => fun
  | [d] => { results := [.lit (.bool true)], args := [d] }
  | _ => none }
def fnExactValidEphemerisRow : OpenClaim := { program := "ytgkkdghmkcmmcaa", sum := "2c3a3538a1fbebb0bd1a568f5c95e0178c94f22d3d7978488c268e442bcef66a", func := "loop.example/g01026/laws.FnExactValidEphemeris", spec := "fnExactValidEphemeris", apart := false }
def FnExactValidEphemerisSaid : Prop := fnExactValidEphemerisRow.holds Try.pinned (OpenSpec.ofChange fnExactValidEphemerisSpec)

/-- ITS FALSE NEIGHBOUR: 'it returns false'. Refute it at one input. -/
def fnExactValidEphemerisWrong : ChangeSpec := { name := "fnExactValidEphemeris", fn := fun _ => fun
  | [d] => { results := [.lit (.bool false)], args := [d] }
  | _ => none }
def FnExactValidEphemerisWrongFalsely : Prop := fnExactValidEphemerisRow.holds Try.pinned (OpenSpec.ofChange fnExactValidEphemerisWrong)

/-- 'laws.FnExactValidSearch': WHATEVER THE INPUT: true; the input reads as it did. -/
def fnExactValidSearchSpec : ChangeSpec := { name := "fnExactValidSearch", fn := fun _ => fun
  | [d] => { results := [.lit (.bool true)], args := [d] }
  | _ => none }
def fnExactValidSearchRow : OpenClaim := { program := "ytgkkdghmkcmmcaa", sum := "2c3a3538a1fbebb0bd1a568f5c95e0178c94f22d3d7978488c268e442bcef66a", func := "loop.example/g01026/laws.FnExactValidSearch", spec := "fnExactValidSearch", apart := false }
def FnExactValidSearchSaid : Prop := fnExactValidSearchRow.holds Try.pinned (OpenSpec.ofChange fnExactValidSearchSpec)

/-- ITS FALSE NEIGHBOUR: 'it returns false'. Refute it at one input. -/
def fnExactValidSearchWrong : ChangeSpec := { name := "fnExactValidSearch", fn := fun _ => fun
  | [d] => { results := [.lit (.bool false)], args := [d] }
  | _ => none }
def FnExactValidSearchWrongFalsely : Prop := fnExactValidSearchRow.holds Try.pinned (OpenSpec.ofChange fnExactValidSearchWrong)

/-- 'laws.FnExactCycleOf': WHATEVER THE INPUT: true; the input reads as it did. -/
def fnExactCycleOfSpec : ChangeSpec := { name := "fnExactCycleOf", fn := fun _ => fun
  | [d1, d2] => { results := [.lit (.bool true)], args := [d1, d2] }
  | _ => none }
def fnExactCycleOfRow : OpenClaim := { program := "ytgkkdghmkcmmcaa", sum := "2c3a3538a1fbebb0bd1a568f5c95e0178c94f22d3d7978488c268e442bcef66a", func := "loop.example/g01026/laws.FnExactCycleOf", spec := "fnExactCycleOf", apart := false }
def FnExactCycleOfSaid : Prop := fnExactCycleOfRow.holds Try.pinned (OpenSpec.ofChange fnExactCycleOfSpec)

/-- ITS FALSE NEIGHBOUR: 'it returns false'. Refute it at one input. -/
def fnExactCycleOfWrong : ChangeSpec := { name := "fnExactCycleOf", fn := fun _ => fun
  | [d1, d2] => { results := [.lit (.bool false)], args := [d1, d2] }
  | _ => none }
def FnExactCycleOfWrongFalsely : Prop := fnExactCycleOfRow.holds Try.pinned (OpenSpec.ofChange fnExactCycleOfWrong)

/-- 'laws.FnExactPhaseOf': WHATEVER THE INPUT: true; the input reads as it did. -/
def fnExactPhaseOfSpec : ChangeSpec := { name := "fnExactPhaseOf", fn := fun _ => fun
  | [d1, d2] => { results := [.lit (.bool true)], args := [d1, d2] }
  | _ => none }
def fnExactPhaseOfRow : OpenClaim := { program := "ytgkkdghmkcmmcaa", sum := "2c3a3538a1fbebb0bd1a568f5c95e0178c94f22d3d7978488c268e442bcef66a", func := "loop.example/g01026/laws.FnExactPhaseOf", spec := "fnExactPhaseOf", apart := false }
def FnExactPhaseOfSaid : Prop := fnExactPhaseOfRow.holds Try.pinned (OpenSpec.ofChange fnExactPhaseOfSpec)

/-- ITS FALSE NEIGHBOUR: 'it returns false'. Refute it at one input. -/
def fnExactPhaseOfWrong : ChangeSpec := { name := "fnExactPhaseOf", fn := fun _ => fun
  | [d1, d2] => { results := [.lit (.bool false)], args := [d1, d2] }
  | _ => none }
def FnExactPhaseOfWrongFalsely : Prop := fnExactPhaseOfRow.holds Try.pinned (OpenSpec.ofChange fnExactPhaseOfWrong)

/-- 'laws.FnExactSameCurve': WHATEVER THE INPUT: true; the input reads as it did. -/
def fnExactSameCurveSpec : ChangeSpec := { name := "fnExactSameCurve", fn := fun _ => fun
  | [d1, d2] => { results := [.lit (.bool true)], args := [d1, d2] }
  | _ => none }
def fnExactSameCurveRow : OpenClaim := { program := "ytgkkdghmkcmmcaa", sum := "2c3a3538a1fbebb0bd1a568f5c95e0178c94f22d3d7978488c268e442bcef66a", func := "loop.example/g01026/laws.FnExactSameCurve", spec := "fnExactSameCurve", apart := false }
def FnExactSameCurveSaid : Prop := fnExactSameCurveRow.holds Try.pinned (OpenSpec.ofChange fnExactSameCurveSpec)

/-- ITS FALSE NEIGHBOUR: 'it returns false'. Refute it at one input. -/
def fnExactSameCurveWrong : ChangeSpec := { name := "fnExactSameCurve", fn := fun _ => fun
  | [d1, d2] => { results := [.lit (.bool false)], args := [d1, d2] }
  | _ => none }
def FnExactSameCurveWrongFalsely : Prop := fnExactSameCurveRow.holds Try.pinned (OpenSpec.ofChange fnExactSameCurveWrong)

/-- 'laws.FnExactValidCurve': WHATEVER THE INPUT: true; the input reads as it did. -/
def fnExactValidCurveSpec : ChangeSpec := { name := "fnExactValidCurve", fn := fun _ => fun
  | [d] => { results := [.lit (.bool true)], args := [d] }
  | _ => none }
def fnExactValidCurveRow : OpenClaim := { program := "ytgkkdghmkcmmcaa", sum := "2c3a3538a1fbebb0bd1a568f5c95e0178c94f22d3d7978488c268e442bcef66a", func := "loop.example/g01026/laws.FnExactValidCurve", spec := "fnExactValidCurve", apart := false }
def FnExactValidCurveSaid : Prop := fnExactValidCurveRow.holds Try.pinned (OpenSpec.ofChange fnExactValidCurveSpec)

/-- ITS FALSE NEIGHBOUR: 'it returns false'. Refute it at one input. -/
def fnExactValidCurveWrong : ChangeSpec := { name := "fnExactValidCurve", fn := fun _ => fun
  | [d] => { results := [.lit (.bool false)], args := [d] }
  | _ => none }
def FnExactValidCurveWrongFalsely : Prop := fnExactValidCurveRow.holds Try.pinned (OpenSpec.ofChange fnExactValidCurveWrong)

/-- 'laws.FnExactSameChart': WHATEVER THE INPUT: true; the input reads as it did. -/
def fnExactSameChartSpec : ChangeSpec := { name := "fnExactSameChart", fn := fun _ => fun
  | [d1, d2] => { results := [.lit (.bool true)], args := [d1, d2] }
  | _ => none }
def fnExactSameChartRow : OpenClaim := { program := "ytgkkdghmkcmmcaa", sum := "2c3a3538a1fbebb0bd1a568f5c95e0178c94f22d3d7978488c268e442bcef66a", func := "loop.example/g01026/laws.FnExactSameChart", spec := "fnExactSameChart", apart := false }
def FnExactSameChartSaid : Prop := fnExactSameChartRow.holds Try.pinned (OpenSpec.ofChange fnExactSameChartSpec)

/-- ITS FALSE NEIGHBOUR: 'it returns false'. Refute it at one input. -/
def fnExactSameChartWrong : ChangeSpec := { name := "fnExactSameChart", fn := fun _ => fun
  | [d1, d2] => { results := [.lit (.bool false)], args := [d1, d2] }
  | _ => none }
def FnExactSameChartWrongFalsely : Prop := fnExactSameChartRow.holds Try.pinned (OpenSpec.ofChange fnExactSameChartWrong)

/-- 'laws.FnExactPeriodsOf': WHATEVER THE INPUT: true; the input reads as it did. -/
def fnExactPeriodsOfSpec : ChangeSpec := { name := "fnExactPeriodsOf", fn := fun _ => fun
  | [d] => { results := [.lit (.bool true)], args := [d] }
  | _ => none }
def fnExactPeriodsOfRow : OpenClaim := { program := "ytgkkdghmkcmmcaa", sum := "2c3a3538a1fbebb0bd1a568f5c95e0178c94f22d3d7978488c268e442bcef66a", func := "loop.example/g01026/laws.FnExactPeriodsOf", spec := "fnExactPeriodsOf", apart := false }
def FnExactPeriodsOfSaid : Prop := fnExactPeriodsOfRow.holds Try.pinned (OpenSpec.ofChange fnExactPeriodsOfSpec)

/-- ITS FALSE NEIGHBOUR: 'it returns false'. Refute it at one input. -/
def fnExactPeriodsOfWrong : ChangeSpec := { name := "fnExactPeriodsOf", fn := fun _ => fun
  | [d] => { results := [.lit (.bool false)], args := [d] }
  | _ => none }
def FnExactPeriodsOfWrongFalsely : Prop := fnExactPeriodsOfRow.holds Try.pinned (OpenSpec.ofChange fnExactPeriodsOfWrong)

/-- 'laws.FnExactPairSquares': WHATEVER THE INPUT: true; the input reads as it did. -/
def fnExactPairSquaresSpec : ChangeSpec := { name := "fnExactPairSquares", fn := fun _ => fun
  | [d] => { results := [.lit (.bool true)], args := [d] }
  | _ => none }
def fnExactPairSquaresRow : OpenClaim := { program := "ytgkkdghmkcmmcaa", sum := "2c3a3538a1fbebb0bd1a568f5c95e0178c94f22d3d7978488c268e442bcef66a", func := "loop.example/g01026/laws.FnExactPairSquares", spec := "fnExactPairSquares", unfollowed := true, recurses := true, apart := false }
def FnExactPairSquaresSaid : Prop := fnExactPairSquaresRow.holds Try.pinned (OpenSpec.ofChange fnExactPairSquaresSpec)

/-- ITS FALSE NEIGHBOUR: 'it returns false'. Refute it at one input. -/
def fnExactPairSquaresWrong : ChangeSpec := { name := "fnExactPairSquares", fn := fun _ => fun
  | [d] => { results := [.lit (.bool false)], args := [d] }
  | _ => none }
def FnExactPairSquaresWrongFalsely : Prop := fnExactPairSquaresRow.holds Try.pinned (OpenSpec.ofChange fnExactPairSquaresWrong)

/-- 'laws.FnExactValidChart': WHATEVER THE INPUT: true; the input reads as it did. -/
def fnExactValidChartSpec : ChangeSpec := { name := "fnExactValidChart", fn := fun _ => fun
  | [d] => { results := [.lit (.bool true)], args := [d] }
  | _ => none }
def fnExactValidChartRow : OpenClaim := { program := "ytgkkdghmkcmmcaa", sum := "2c3a3538a1fbebb0bd1a568f5c95e0178c94f22d3d7978488c268e442bcef66a", func := "loop.example/g01026/laws.FnExactValidChart", spec := "fnExactValidChart", unfollowed := true, recurses := true, apart := false }
def FnExactValidChartSaid : Prop := fnExactValidChartRow.holds Try.pinned (OpenSpec.ofChange fnExactValidChartSpec)

/-- ITS FALSE NEIGHBOUR: 'it returns false'. Refute it at one input. -/
def fnExactValidChartWrong : ChangeSpec := { name := "fnExactValidChart", fn := fun _ => fun
  | [d] => { results := [.lit (.bool false)], args := [d] }
  | _ => none }
def FnExactValidChartWrongFalsely : Prop := fnExactValidChartRow.holds Try.pinned (OpenSpec.ofChange fnExactValidChartWrong)

/-- 'laws.FnExactLongestGap': WHATEVER THE INPUT: true; the input reads as it did. -/
def fnExactLongestGapSpec : ChangeSpec := { name := "fnExactLongestGap", fn := fun _ => fun
  | [d] => { results := [.lit (.bool true)], args := [d] }
  | _ => none }
def fnExactLongestGapRow : OpenClaim := { program := "ytgkkdghmkcmmcaa", sum := "2c3a3538a1fbebb0bd1a568f5c95e0178c94f22d3d7978488c268e442bcef66a", func := "loop.example/g01026/laws.FnExactLongestGap", spec := "fnExactLongestGap", apart := false }
def FnExactLongestGapSaid : Prop := fnExactLongestGapRow.holds Try.pinned (OpenSpec.ofChange fnExactLongestGapSpec)

/-- ITS FALSE NEIGHBOUR: 'it returns false'. Refute it at one input. -/
def fnExactLongestGapWrong : ChangeSpec := { name := "fnExactLongestGap", fn := fun _ => fun
  | [d] => { results := [.lit (.bool false)], args := [d] }
  | _ => none }
def FnExactLongestGapWrongFalsely : Prop := fnExactLongestGapRow.holds Try.pinned (OpenSpec.ofChange fnExactLongestGapWrong)

/-- 'laws.FnExactPathOf': WHATEVER THE INPUT: true; the input reads as it did. -/
def fnExactPathOfSpec : ChangeSpec := { name := "fnExactPathOf", fn := fun _ => fun
  | [d] => { results := [.lit (.bool true)], args := [d] }
  | _ => none }
def fnExactPathOfRow : OpenClaim := { program := "ytgkkdghmkcmmcaa", sum := "2c3a3538a1fbebb0bd1a568f5c95e0178c94f22d3d7978488c268e442bcef66a", func := "loop.example/g01026/laws.FnExactPathOf", spec := "fnExactPathOf", apart := false }
def FnExactPathOfSaid : Prop := fnExactPathOfRow.holds Try.pinned (OpenSpec.ofChange fnExactPathOfSpec)

/-- ITS FALSE NEIGHBOUR: 'it returns false'. Refute it at one input. -/
def fnExactPathOfWrong : ChangeSpec := { name := "fnExactPathOf", fn := fun _ => fun
  | [d] => { results := [.lit (.bool false)], args := [d] }
  | _ => none }
def FnExactPathOfWrongFalsely : Prop := fnExactPathOfRow.holds Try.pinned (OpenSpec.ofChange fnExactPathOfWrong)

/- THE SECOND FORM. 'bulk': how many values and letters a reading holds, each counted each time it is reached (what is shared counts as often as it is met; a slice's spare places count too). A statement '..UptoSaid' is the law's where the arguments, and the package variables that the reading takes, are together of bulk at most 1048576: NARROWER than '..Said'. Prove '..Said' where nothing that the law and all that it calls make is longer than what came in: it says more and counts as full. Else prove '..UptoSaid'. A law counts once. -/
mutual
def uptoBulk {H : Type} : DataW H → Nat
  | .lit (.string bytes) => bytes.length + 1
  | .lit _ => 1
  | .nil => 1
  | .ptr d => uptoBulk d + 1
  | .slice elems spare => uptoBulkAll elems + uptoBulkAll spare + 1
  | .agg parts => uptoBulkAll parts + 1
  | .iface _ d => uptoBulk d + 1
  | .map entries => uptoBulkEntries entries + 1
  | .held _ => 1
def uptoBulkAll {H : Type} : List (DataW H) → Nat
  | [] => 0
  | d :: r => uptoBulk d + uptoBulkAll r
def uptoBulkEntries {H : Type} : List (Lit × DataW H) → Nat
  | [] => 0
  | x :: r => uptoBulkEntry x + uptoBulkEntries r
def uptoBulkEntry {H : Type} : Lit × DataW H → Nat
  | (.string bytes, d) => bytes.length + uptoBulk d + 1
  | (_, d) => uptoBulk d + 1
 end
def uptoSmall : (H : Type) → List (DataW H) → Bool := fun _ ds => decide (uptoBulkAll ds ≤ 1048576)
def OpenSpec.upto (s : _root_.Go.ChangeSpec) : _root_.Go.OpenSpec := { _root_.Go.OpenSpec.ofChange s with cond := some uptoSmall }

/-- 'laws.FnExactValidEphemeris', WHERE WHAT IT READS IS OF BULK AT MOST 1048576: true; the input reads as it did. -/
def fnExactValidEphemerisUptoRow : OpenClaim := { program := "ytgkkdghmkcmmcaa", sum := "2c3a3538a1fbebb0bd1a568f5c95e0178c94f22d3d7978488c268e442bcef66a", func := "loop.example/g01026/laws.FnExactValidEphemeris", spec := "fnExactValidEphemeris", apart := false, narrowed := true }
def FnExactValidEphemerisUptoSaid : Prop := fnExactValidEphemerisUptoRow.holds Try.pinned (OpenSpec.upto fnExactValidEphemerisSpec)

/-- 'laws.FnExactValidSearch', WHERE WHAT IT READS IS OF BULK AT MOST 1048576: true; the input reads as it did. -/
def fnExactValidSearchUptoRow : OpenClaim := { program := "ytgkkdghmkcmmcaa", sum := "2c3a3538a1fbebb0bd1a568f5c95e0178c94f22d3d7978488c268e442bcef66a", func := "loop.example/g01026/laws.FnExactValidSearch", spec := "fnExactValidSearch", apart := false, narrowed := true }
def FnExactValidSearchUptoSaid : Prop := fnExactValidSearchUptoRow.holds Try.pinned (OpenSpec.upto fnExactValidSearchSpec)

/-- 'laws.FnExactCycleOf', WHERE WHAT IT READS IS OF BULK AT MOST 1048576: true; the input reads as it did. -/
def fnExactCycleOfUptoRow : OpenClaim := { program := "ytgkkdghmkcmmcaa", sum := "2c3a3538a1fbebb0bd1a568f5c95e0178c94f22d3d7978488c268e442bcef66a", func := "loop.example/g01026/laws.FnExactCycleOf", spec := "fnExactCycleOf", apart := false, narrowed := true }
def FnExactCycleOfUptoSaid : Prop := fnExactCycleOfUptoRow.holds Try.pinned (OpenSpec.upto fnExactCycleOfSpec)

/-- 'laws.FnExactPhaseOf', WHERE WHAT IT READS IS OF BULK AT MOST 1048576: true; the input reads as it did. -/
def fnExactPhaseOfUptoRow : OpenClaim := { program := "ytgkkdghmkcmmcaa", sum := "2c3a3538a1fbebb0bd1a568f5c95e0178c94f22d3d7978488c268e442bcef66a", func := "loop.example/g01026/laws.FnExactPhaseOf", spec := "fnExactPhaseOf", apart := false, narrowed := true }
def FnExactPhaseOfUptoSaid : Prop := fnExactPhaseOfUptoRow.holds Try.pinned (OpenSpec.upto fnExactPhaseOfSpec)

/-- 'laws.FnExactSameCurve', WHERE WHAT IT READS IS OF BULK AT MOST 1048576: true; the input reads as it did. -/
def fnExactSameCurveUptoRow : OpenClaim := { program := "ytgkkdghmkcmmcaa", sum := "2c3a3538a1fbebb0bd1a568f5c95e0178c94f22d3d7978488c268e442bcef66a", func := "loop.example/g01026/laws.FnExactSameCurve", spec := "fnExactSameCurve", apart := false, narrowed := true }
def FnExactSameCurveUptoSaid : Prop := fnExactSameCurveUptoRow.holds Try.pinned (OpenSpec.upto fnExactSameCurveSpec)

/-- 'laws.FnExactValidCurve', WHERE WHAT IT READS IS OF BULK AT MOST 1048576: true; the input reads as it did. -/
def fnExactValidCurveUptoRow : OpenClaim := { program := "ytgkkdghmkcmmcaa", sum := "2c3a3538a1fbebb0bd1a568f5c95e0178c94f22d3d7978488c268e442bcef66a", func := "loop.example/g01026/laws.FnExactValidCurve", spec := "fnExactValidCurve", apart := false, narrowed := true }
def FnExactValidCurveUptoSaid : Prop := fnExactValidCurveUptoRow.holds Try.pinned (OpenSpec.upto fnExactValidCurveSpec)

/-- 'laws.FnExactSameChart', WHERE WHAT IT READS IS OF BULK AT MOST 1048576: true; the input reads as it did. -/
def fnExactSameChartUptoRow : OpenClaim := { program := "ytgkkdghmkcmmcaa", sum := "2c3a3538a1fbebb0bd1a568f5c95e0178c94f22d3d7978488c268e442bcef66a", func := "loop.example/g01026/laws.FnExactSameChart", spec := "fnExactSameChart", apart := false, narrowed := true }
def FnExactSameChartUptoSaid : Prop := fnExactSameChartUptoRow.holds Try.pinned (OpenSpec.upto fnExactSameChartSpec)

/-- 'laws.FnExactPeriodsOf', WHERE WHAT IT READS IS OF BULK AT MOST 1048576: true; the input reads as it did. -/
def fnExactPeriodsOfUptoRow : OpenClaim := { program := "ytgkkdghmkcmmcaa", sum := "2c3a3538a1fbebb0bd1a568f5c95e0178c94f22d3d7978488c268e442bcef66a", func := "loop.example/g01026/laws.FnExactPeriodsOf", spec := "fnExactPeriodsOf", apart := false, narrowed := true }
def FnExactPeriodsOfUptoSaid : Prop := fnExactPeriodsOfUptoRow.holds Try.pinned (OpenSpec.upto fnExactPeriodsOfSpec)

/-- 'laws.FnExactPairSquares', WHERE WHAT IT READS IS OF BULK AT MOST 1048576: true; the input reads as it did. -/
def fnExactPairSquaresUptoRow : OpenClaim := { program := "ytgkkdghmkcmmcaa", sum := "2c3a3538a1fbebb0bd1a568f5c95e0178c94f22d3d7978488c268e442bcef66a", func := "loop.example/g01026/laws.FnExactPairSquares", spec := "fnExactPairSquares", unfollowed := true, recurses := true, apart := false, narrowed := true }
def FnExactPairSquaresUptoSaid : Prop := fnExactPairSquaresUptoRow.holds Try.pinned (OpenSpec.upto fnExactPairSquaresSpec)

/-- 'laws.FnExactValidChart', WHERE WHAT IT READS IS OF BULK AT MOST 1048576: true; the input reads as it did. -/
def fnExactValidChartUptoRow : OpenClaim := { program := "ytgkkdghmkcmmcaa", sum := "2c3a3538a1fbebb0bd1a568f5c95e0178c94f22d3d7978488c268e442bcef66a", func := "loop.example/g01026/laws.FnExactValidChart", spec := "fnExactValidChart", unfollowed := true, recurses := true, apart := false, narrowed := true }
def FnExactValidChartUptoSaid : Prop := fnExactValidChartUptoRow.holds Try.pinned (OpenSpec.upto fnExactValidChartSpec)

/-- 'laws.FnExactLongestGap', WHERE WHAT IT READS IS OF BULK AT MOST 1048576: true; the input reads as it did. -/
def fnExactLongestGapUptoRow : OpenClaim := { program := "ytgkkdghmkcmmcaa", sum := "2c3a3538a1fbebb0bd1a568f5c95e0178c94f22d3d7978488c268e442bcef66a", func := "loop.example/g01026/laws.FnExactLongestGap", spec := "fnExactLongestGap", apart := false, narrowed := true }
def FnExactLongestGapUptoSaid : Prop := fnExactLongestGapUptoRow.holds Try.pinned (OpenSpec.upto fnExactLongestGapSpec)

/-- 'laws.FnExactPathOf', WHERE WHAT IT READS IS OF BULK AT MOST 1048576: true; the input reads as it did. -/
def fnExactPathOfUptoRow : OpenClaim := { program := "ytgkkdghmkcmmcaa", sum := "2c3a3538a1fbebb0bd1a568f5c95e0178c94f22d3d7978488c268e442bcef66a", func := "loop.example/g01026/laws.FnExactPathOf", spec := "fnExactPathOf", apart := false, narrowed := true }
def FnExactPathOfUptoSaid : Prop := fnExactPathOfUptoRow.holds Try.pinned (OpenSpec.upto fnExactPathOfSpec)

end Rows
end Go.Proofs.Ytgkkdghmkcmmcaa
