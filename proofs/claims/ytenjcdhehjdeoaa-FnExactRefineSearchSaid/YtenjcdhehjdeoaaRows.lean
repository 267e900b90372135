/-
  No cell of these rows narrows 'for every input' (looked for: loops, veiled, ifaces, maps, wideKeys, modest, calm, conditions, laid).
  DERIVED. THE GIVEN ROWS OF THIS SEAT. 9 by the template 'for every input the law returns true; each argument reads behind the call as it read before'; 0 by the template 'total and deterministic' (their statements: YtenjcdhehjdeoaaTotals.lean).
  GIVEN WITH THE SEED: the statements are not yours to turn. If you find one false, say at which input.
  Laid BY PROGRAM, IN A SANDBOX (cutbox-rows.mjs): the forced cells as the released guide's own fill.sh prints them over the translation 9ce42a29f84444a9… (all of the seat's roots in one cut). By AI agents, Wed Nov 11 2026. No macro, syntax, notation, axiom, sorry.
-/
import Derived.Test.YtenjcdhehjdeoaaChecked
import GoSem.Claim
import GoSem.ClaimJoined
import GoSem.ClaimMapViews
import Derived.JoinedTies
import Derived.KernelRfl
namespace Go.Proofs.Ytenjcdhehjdeoaa
/- THE CELL 'sum', in the pinned program and in every row, IS THE sha256 OF THE DUMP (.gsa) THAT YtenjcdhehjdeoaaProg.lean LOADS. Nothing in Lean hashes anything: it is a label: what it is worth is what the hold of that sum in a sandbox is worth. -/
noncomputable def Try.pinned : Pinned := { name := "ytenjcdhehjdeoaa", sum := "9ce42a29f84444a921edb25b326e112fd1c56b0ebd11a4bc143f030753fef549", checked := Try.checked }
namespace Rows
def none {H : Type} : Left H := { results := [], args := [] }

/-- 'laws.FnExactOutliersOf': WHATEVER THE INPUT: true; the input reads as it did. -/
def fnExactOutliersOfSpec : ChangeSpec := { name := "fnExactOutliersOf", fn := fun _ => fun
  | [d1, d2, d3] => { results := [.lit (.bool true)], args := [d1, d2, d3] }
  | _ => none }
def fnExactOutliersOfRow : OpenClaim := { program := "ytenjcdhehjdeoaa", sum := "9ce42a29f84444a921edb25b326e112fd1c56b0ebd11a4bc143f030753fef549", func := "loop.example/g01026/laws.FnExactOutliersOf", spec := "fnExactOutliersOf", unfollowed := true, recurses := true, apart := false }
def FnExactOutliersOfSaid : Prop := fnExactOutliersOfRow.holds Try.pinned (OpenSpec.ofChange fnExactOutliersOfSpec)

/-- ITS FALSE NEIGHBOUR: 'it returns false'. Refute it at one input. -/
def fnExactOutliersOfWrong : ChangeSpec := { name := "fnExactOutliersOf", fn := fun _ => fun
  | [d1, d2, d3] => { results := [.lit (.bool false)], args := [d1, d2, d3] }
  | _ => none }
def FnExactOutliersOfWrongFalsely : Prop := fnExactOutliersOfRow.holds Try.pinned (OpenSpec.ofChange fnExactOutliersOfWrong)

/-- 'laws.FnExactSmoothCurve': WHATEVER THE INPUT: true; the input reads as it did. -/
def fnExactSmoothCurveSpec : ChangeSpec := { name := "fnExactSmoothCurve", fn := fun _ => fun
  | [d1, d2] => { results := [.lit (.bool true)], args := [d1, d2] }
  | _ => none }
def fnExactSmoothCurveRow : OpenClaim := { program := "ytenjcdhehjdeoaa", sum := "9ce42a29f84444a921edb25b326e112fd1c56b0ebd11a4bc143f030753fef549", func := "loop.example/g01026/laws.FnExactSmoothCurve", spec := "fnExactSmoothCurve", unfollowed := true, recurses := true, apart := false }
def FnExactSmoothCurveSaid : Prop := fnExactSmoothCurveRow.holds Try.pinned (OpenSpec.ofChange fnExactSmoothCurveSpec)

/-- ITS FALSE NEIGHBOUR: 'it returns false'. Refute it at one input. -/
def fnExactSmoothCurveWrong : ChangeSpec := { name := "fnExactSmoothCurve", fn := fun _ => fun
  | [d1, d2] => { results := [.lit (.bool false)], args := [d1, d2] }
  | _ => none }
def FnExactSmoothCurveWrongFalsely : Prop := fnExactSmoothCurveRow.holds Try.pinned (OpenSpec.ofChange fnExactSmoothCurveWrong)

/-- 'laws.FnExactStringLength': WHATEVER THE INPUT: true; the input reads as it did. -/
def fnExactStringLengthSpec : ChangeSpec := { name := "fnExactStringLength", fn := fun _ => fun
  | [d1, d2] => { results := [.lit (.bool true)], args := [d1, d2] }
  | _ => none }
def fnExactStringLengthRow : OpenClaim := { program := "ytenjcdhehjdeoaa", sum := "9ce42a29f84444a921edb25b326e112fd1c56b0ebd11a4bc143f030753fef549", func := "loop.example/g01026/laws.FnExactStringLength", spec := "fnExactStringLength", unfollowed := true, recurses := true, apart := false }
def FnExactStringLengthSaid : Prop := fnExactStringLengthRow.holds Try.pinned (OpenSpec.ofChange fnExactStringLengthSpec)

/-- ITS FALSE NEIGHBOUR: 'it returns false'. Refute it at one input. -/
def fnExactStringLengthWrong : ChangeSpec := { name := "fnExactStringLength", fn := fun _ => fun
  | [d1, d2] => { results := [.lit (.bool false)], args := [d1, d2] }
  | _ => none }
def FnExactStringLengthWrongFalsely : Prop := fnExactStringLengthRow.holds Try.pinned (OpenSpec.ofChange fnExactStringLengthWrong)

/-- 'laws.FnExactFoldOrder': WHATEVER THE INPUT: true; the input reads as it did. -/
def fnExactFoldOrderSpec : ChangeSpec := { name := "fnExactFoldOrder", fn := fun _ => fun
  | [d1, d2] => { results := [.lit (.bool true)], args := [d1, d2] }
  | _ => none }
def fnExactFoldOrderRow : OpenClaim := { program := "ytenjcdhehjdeoaa", sum := "9ce42a29f84444a921edb25b326e112fd1c56b0ebd11a4bc143f030753fef549", func := "loop.example/g01026/laws.FnExactFoldOrder", spec := "fnExactFoldOrder", unfollowed := true, recurses := true, apart := false }
def FnExactFoldOrderSaid : Prop := fnExactFoldOrderRow.holds Try.pinned (OpenSpec.ofChange fnExactFoldOrderSpec)

/-- ITS FALSE NEIGHBOUR: 'it returns false'. Refute it at one input. -/
def fnExactFoldOrderWrong : ChangeSpec := { name := "fnExactFoldOrder", fn := fun _ => fun
  | [d1, d2] => { results := [.lit (.bool false)], args := [d1, d2] }
  | _ => none }
def FnExactFoldOrderWrongFalsely : Prop := fnExactFoldOrderRow.holds Try.pinned (OpenSpec.ofChange fnExactFoldOrderWrong)

/-- 'laws.FnExactStringLengths': WHATEVER THE INPUT: true; the input reads as it did. -/
def fnExactStringLengthsSpec : ChangeSpec := { name := "fnExactStringLengths", fn := fun _ => fun
  | [d1, d2] => { results := [.lit (.bool true)], args := [d1, d2] }
  | _ => none }
def fnExactStringLengthsRow : OpenClaim := { program := "ytenjcdhehjdeoaa", sum := "9ce42a29f84444a921edb25b326e112fd1c56b0ebd11a4bc143f030753fef549", func := "loop.example/g01026/laws.FnExactStringLengths", spec := "fnExactStringLengths", unfollowed := true, recurses := true, apart := false }
def FnExactStringLengthsSaid : Prop := fnExactStringLengthsRow.holds Try.pinned (OpenSpec.ofChange fnExactStringLengthsSpec)

/-- ITS FALSE NEIGHBOUR: 'it returns false'. Refute it at one input. -/
def fnExactStringLengthsWrong : ChangeSpec := { name := "fnExactStringLengths", fn := fun _ => fun
  | [d1, d2] => { results := [.lit (.bool false)], args := [d1, d2] }
  | _ => none }
def FnExactStringLengthsWrongFalsely : Prop := fnExactStringLengthsRow.holds Try.pinned (OpenSpec.ofChange fnExactStringLengthsWrong)

/-- 'laws.FnExactBestPeriod': WHATEVER THE INPUT: true; the input reads as it did. -/
def fnExactBestPeriodSpec : ChangeSpec := { name := "fnExactBestPeriod", fn := fun _ => fun
  | [d1, d2] => { results := [.lit (.bool true)], args := [d1, d2] }
  | _ => none }
def fnExactBestPeriodRow : OpenClaim := { program := "ytenjcdhehjdeoaa", sum := "9ce42a29f84444a921edb25b326e112fd1c56b0ebd11a4bc143f030753fef549", func := "loop.example/g01026/laws.FnExactBestPeriod", spec := "fnExactBestPeriod", unfollowed := true, recurses := true, apart := false }
def FnExactBestPeriodSaid : Prop := fnExactBestPeriodRow.holds Try.pinned (OpenSpec.ofChange fnExactBestPeriodSpec)

/-- ITS FALSE NEIGHBOUR: 'it returns false'. Refute it at one input. -/
def fnExactBestPeriodWrong : ChangeSpec := { name := "fnExactBestPeriod", fn := fun _ => fun
  | [d1, d2] => { results := [.lit (.bool false)], args := [d1, d2] }
  | _ => none }
def FnExactBestPeriodWrongFalsely : Prop := fnExactBestPeriodRow.holds Try.pinned (OpenSpec.ofChange fnExactBestPeriodWrong)

/-- 'laws.FnExactSecondPeriod': WHATEVER THE INPUT: true; the input reads as it did. -/
def fnExactSecondPeriodSpec : ChangeSpec := { name := "fnExactSecondPeriod", fn := fun _ => fun
  | [d1, d2] => { results := [.lit (.bool true)], args := [d1, d2] }
  | _ => none }
def fnExactSecondPeriodRow : OpenClaim := { program := "ytenjcdhehjdeoaa", sum := "9ce42a29f84444a921edb25b326e112fd1c56b0ebd11a4bc143f030753fef549", func := "loop.example/g01026/laws.FnExactSecondPeriod", spec := "fnExactSecondPeriod", unfollowed := true, recurses := true, apart := false }
def FnExactSecondPeriodSaid : Prop := fnExactSecondPeriodRow.holds Try.pinned (OpenSpec.ofChange fnExactSecondPeriodSpec)

/-- ITS FALSE NEIGHBOUR: 'it returns false'. Refute it at one input. -/
def fnExactSecondPeriodWrong : ChangeSpec := { name := "fnExactSecondPeriod", fn := fun _ => fun
  | [d1, d2] => { results := [.lit (.bool false)], args := [d1, d2] }
  | _ => none }
def FnExactSecondPeriodWrongFalsely : Prop := fnExactSecondPeriodRow.holds Try.pinned (OpenSpec.ofChange fnExactSecondPeriodWrong)

/-- 'laws.FnExactRefineSearch': WHATEVER THE INPUT: true; the input reads as it did. -/
def fnExactRefineSearchSpec : ChangeSpec := { name := "fnExactRefineSearch", fn := fun _ => fun
  | [d1, d2, d3] => { results := [.lit (.bool true)], args := [d1, d2, d3] }
  | _ => none }
def fnExactRefineSearchRow : OpenClaim := { program := "ytenjcdhehjdeoaa", sum := "9ce42a29f84444a921edb25b326e112fd1c56b0ebd11a4bc143f030753fef549", func := "loop.example/g01026/laws.FnExactRefineSearch", spec := "fnExactRefineSearch", unfollowed := true, recurses := true, apart := false }
def FnExactRefineSearchSaid : Prop := fnExactRefineSearchRow.holds Try.pinned (OpenSpec.ofChange fnExactRefineSearchSpec)

/-- ITS FALSE NEIGHBOUR: 'it returns false'. Refute it at one input. -/
def fnExactRefineSearchWrong : ChangeSpec := { name := "fnExactRefineSearch", fn := fun _ => fun
  | [d1, d2, d3] => { results := [.lit (.bool false)], args := [d1, d2, d3] }
  | _ => none }
def FnExactRefineSearchWrongFalsely : Prop := fnExactRefineSearchRow.holds Try.pinned (OpenSpec.ofChange fnExactRefineSearchWrong)

/-- 'laws.FnExactAgreeingPeriods': WHATEVER THE INPUT: true; the input reads as it did. -/
def fnExactAgreeingPeriodsSpec : ChangeSpec := { name := "fnExactAgreeingPeriods", fn := fun _ => fun
  | [d1, d2, d3] => { results := [.lit (.bool true)], args := [d1, d2, d3] }
  | _ => none }
def fnExactAgreeingPeriodsRow : OpenClaim := { program := "ytenjcdhehjdeoaa", sum := "9ce42a29f84444a921edb25b326e112fd1c56b0ebd11a4bc143f030753fef549", func := "loop.example/g01026/laws.FnExactAgreeingPeriods", spec := "fnExactAgreeingPeriods", unfollowed := true, recurses := true, apart := false }
def FnExactAgreeingPeriodsSaid : Prop := fnExactAgreeingPeriodsRow.holds Try.pinned (OpenSpec.ofChange fnExactAgreeingPeriodsSpec)

/-- ITS FALSE NEIGHBOUR: 'it returns false'. Refute it at one input. -/
def fnExactAgreeingPeriodsWrong : ChangeSpec := { name := "fnExactAgreeingPeriods", fn := fun _ => fun
  | [d1, d2, d3] => { results := [.lit (.bool false)], args := [d1, d2, d3] }
  | _ => none }
def FnExactAgreeingPeriodsWrongFalsely : Prop := fnExactAgreeingPeriodsRow.holds Try.pinned (OpenSpec.ofChange fnExactAgreeingPeriodsWrong)

/- THE SECOND FORM. 'bulk': how many values and letters a reading holds, each counted each time it is reached (what is shared counts as often as it is met; a slice's spare places count too). A statement '..UptoSaid' is the law's where the arguments, and the package variables that the reading takes, are together of bulk at most 1048576: NARROWER than '..Said'. Prove '..Said' where nothing that the law and all that it calls make is longer than what came in: it says more and counts as full. Else prove '..UptoSaid'. A law counts once. -/
mutual
def uptoBulk {H : Type} : DataW H → Nat
  | .lit (.string bytes) => bytes.length + 1
  | .lit _ => 1
  | .nil => 1
  | .ptr d => uptoBulk d + 1
  | .slice elems spare => uptoBulkAll elems + uptoBulkAll spare + 1
  | .agg parts => uptoBulkAll parts + 1
  | .iface _ d => uptoBulk d + 1
  | .map entries => uptoBulkEntries entries + 1
  | .held _ => 1
def uptoBulkAll {H : Type} : List (DataW H) → Nat
  | [] => 0
  | d :: r => uptoBulk d + uptoBulkAll r
def uptoBulkEntries {H : Type} : List (Lit × DataW H) → Nat
  | [] => 0
  | x :: r => uptoBulkEntry x + uptoBulkEntries r
def uptoBulkEntry {H : Type} : Lit × DataW H → Nat
  | (.string bytes, d) => bytes.length + uptoBulk d + 1
  | (_, d) => uptoBulk d + 1
 end
def uptoSmall : (H : Type) → List (DataW H) → Bool := fun _ ds => decide (uptoBulkAll ds ≤ 1048576)
def OpenSpec.upto (s : _root_.Go.ChangeSpec) : _root_.Go.OpenSpec := { _root_.Go.OpenSpec.ofChange s with cond := some uptoSmall }

/-- 'laws.FnExactOutliersOf', WHERE WHAT IT READS IS OF BULK AT MOST 1048576: true; the input reads as it did. -/
def fnExactOutliersOfUptoRow : OpenClaim := { program := "ytenjcdhehjdeoaa", sum := "9ce42a29f84444a921edb25b326e112fd1c56b0ebd11a4bc143f030753fef549", func := "loop.example/g01026/laws.FnExactOutliersOf", spec := "fnExactOutliersOf", unfollowed := true, recurses := true, apart := false, narrowed := true }
def FnExactOutliersOfUptoSaid : Prop := fnExactOutliersOfUptoRow.holds Try.pinned (OpenSpec.upto fnExactOutliersOfSpec)

/-- 'laws.FnExactSmoothCurve', WHERE WHAT IT READS IS OF BULK AT MOST 1048576: true; the input reads as it did. -/
def fnExactSmoothCurveUptoRow : OpenClaim := { program := "ytenjcdhehjdeoaa", sum := "9ce42a29f84444a921edb25b326e112fd1c56b0ebd11a4bc143f030753fef549", func := "loop.example/g01026/laws.FnExactSmoothCurve", spec := "fnExactSmoothCurve", unfollowed := true, recurses := true, apart := false, narrowed := true }
def FnExactSmoothCurveUptoSaid : Prop := fnExactSmoothCurveUptoRow.holds Try.pinned (OpenSpec.upto fnExactSmoothCurveSpec)

/-- 'laws.FnExactStringLength', WHERE WHAT IT READS IS OF BULK AT MOST 1048576: true; the input reads as it did. -/
def fnExactStringLengthUptoRow : OpenClaim := { program := "ytenjcdhehjdeoaa", sum := "9ce42a29f84444a921edb25b326e112fd1c56b0ebd11a4bc143f030753fef549", func := "loop.example/g01026/laws.FnExactStringLength", spec := "fnExactStringLength", unfollowed := true, recurses := true, apart := false, narrowed := true }
def FnExactStringLengthUptoSaid : Prop := fnExactStringLengthUptoRow.holds Try.pinned (OpenSpec.upto fnExactStringLengthSpec)

/-- 'laws.FnExactFoldOrder', WHERE WHAT IT READS IS OF BULK AT MOST 1048576: true; the input reads as it did. -/
def fnExactFoldOrderUptoRow : OpenClaim := { program := "ytenjcdhehjdeoaa", sum := "9ce42a29f84444a921edb25b326e112fd1c56b0ebd11a4bc143f030753fef549", func := "loop.example/g01026/laws.FnExactFoldOrder", spec := "fnExactFoldOrder", unfollowed := true, recurses := true, apart := false, narrowed := true }
def FnExactFoldOrderUptoSaid : Prop := fnExactFoldOrderUptoRow.holds Try.pinned (OpenSpec.upto fnExactFoldOrderSpec)

/-- 'laws.FnExactStringLengths', WHERE WHAT IT READS IS OF BULK AT MOST 1048576: true; the input reads as it did. -/
def fnExactStringLengthsUptoRow : OpenClaim := { program := "ytenjcdhehjdeoaa", sum := "9ce42a29f84444a921edb25b326e112fd1c56b0ebd11a4bc143f030753fef549", func := "loop.example/g01026/laws.FnExactStringLengths", spec := "fnExactStringLengths", unfollowed := true, recurses := true, apart := false, narrowed := true }
def FnExactStringLengthsUptoSaid : Prop := fnExactStringLengthsUptoRow.holds Try.pinned (OpenSpec.upto fnExactStringLengthsSpec)

/-- 'laws.FnExactBestPeriod', WHERE WHAT IT READS IS OF BULK AT MOST 1048576: true; the input reads as it did. -/
def fnExactBestPeriodUptoRow : OpenClaim := { program := "ytenjcdhehjdeoaa", sum := "9ce42a29f84444a921edb25b326e112fd1c56b0ebd11a4bc143f030753fef549", func := "loop.example/g01026/laws.FnExactBestPeriod", spec := "fnExactBestPeriod", unfollowed := true, recurses := true, apart := false, narrowed := true }
def FnExactBestPeriodUptoSaid : Prop := fnExactBestPeriodUptoRow.holds Try.pinned (OpenSpec.upto fnExactBestPeriodSpec)

/-- 'laws.FnExactSecondPeriod', WHERE WHAT IT READS IS OF BULK AT MOST 1048576: true; the input reads as it did. -/
def fnExactSecondPeriodUptoRow : OpenClaim := { program := "ytenjcdhehjdeoaa", sum := "9ce42a29f84444a921edb25b326e112fd1c56b0ebd11a4bc143f030753fef549", func := "loop.example/g01026/laws.FnExactSecondPeriod", spec := "fnExactSecondPeriod", unfollowed := true, recurses := true, apart := false, narrowed := true }
def FnExactSecondPeriodUptoSaid : Prop := fnExactSecondPeriodUptoRow.holds Try.pinned (OpenSpec.upto fnExactSecondPeriodSpec)

/-- 'laws.FnExactRefineSearch', WHERE WHAT IT READS IS OF BULK AT MOST 1048576: true; the input reads as it did. -/
def fnExactRefineSearchUptoRow : OpenClaim := { program := "ytenjcdhehjdeoaa", sum := "9ce42a29f84444a921edb25b326e112fd1c56b0ebd11a4bc143f030753fef549", func := "loop.example/g01026/laws.FnExactRefineSearch", spec := "fnExactRefineSearch", unfollowed := true, recurses := true, apart := false, narrowed := true }
def FnExactRefineSearchUptoSaid : Prop := fnExactRefineSearchUptoRow.holds Try.pinned (OpenSpec.upto fnExactRefineSearchSpec)

/-- 'laws.FnExactAgreeingPeriods', WHERE WHAT IT READS IS OF BULK AT MOST 1048576: true; the input reads as it did. -/
def fnExactAgreeingPeriodsUptoRow : OpenClaim := { program := "ytenjcdhehjdeoaa", sum := "9ce42a29f84444a921edb25b326e112fd1c56b0ebd11a4bc143f030753fef549", func := "loop.example/g01026/laws.FnExactAgreeingPeriods", spec := "fnExactAgreeingPeriods", unfollowed := true, recurses := true, apart := false, narrowed := true }
def FnExactAgreeingPeriodsUptoSaid : Prop := fnExactAgreeingPeriodsUptoRow.holds Try.pinned (OpenSpec.upto fnExactAgreeingPeriodsSpec)

end Rows
end Go.Proofs.Ytenjcdhehjdeoaa
