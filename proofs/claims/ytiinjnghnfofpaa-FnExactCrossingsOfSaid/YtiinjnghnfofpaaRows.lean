/-
  No cell of these rows narrows 'for every input' (looked for: loops, veiled, ifaces, maps, wideKeys, modest, calm, conditions, laid).
  DERIVED. THE GIVEN ROWS OF THIS SEAT. 12 by the template 'for every input the law returns true; each argument reads behind the call as it read before'; 0 by the template 'total and deterministic' (their statements: YtiinjnghnfofpaaTotals.lean).
  GIVEN WITH THE SEED: the statements are not yours to turn. If you find one false, say at which input.
  Laid BY PROGRAM, IN A SANDBOX (cutbox-rows.mjs): the forced cells as the released guide's own fill.sh prints them over the translation 3290c76b661ea13f… (all of the seat's roots in one cut). By AI agents, Wed Nov 11 2026. No macro, syntax, notation, axiom, sorry.
-/
import Derived.Test.YtiinjnghnfofpaaChecked
import GoSem.Claim
import GoSem.ClaimJoined
import GoSem.ClaimMapViews
import Derived.JoinedTies
import Derived.KernelRfl
namespace Go.Proofs.Ytiinjnghnfofpaa
/- THE CELL 'sum', in the pinned program and in every row, IS THE sha256 OF THE DUMP (.gsa) THAT YtiinjnghnfofpaaProg.lean LOADS. Nothing in Lean hashes anything: it is a label: what it is worth is what the hold of that sum in a sandbox is worth. -/
noncomputable def Try.pinned : Pinned := { name := "ytiinjnghnfofpaa", sum := "3290c76b661ea13feeec7dac8177507627e7afd4fef9101f3706137076a8d2b6", checked := Try.checked }
namespace Rows
def none {H : Type} : Left H := { results := [], args := [] }

/-- 'laws.FnExactFilledBins': WHATEVER THE INPUT: true; the input reads as it did. -/
def fnExactFilledBinsSpec : ChangeSpec := { name := "fnExactFilledBins", fn := fun _ => fun
  | [d1, d2, d3] => { results := [.lit (.bool true)], args := [d1, d2, d3] }
  | _ => none }
def fnExactFilledBinsRow : OpenClaim := { program := "ytiinjnghnfofpaa", sum := "3290c76b661ea13feeec7dac8177507627e7afd4fef9101f3706137076a8d2b6", func := "loop.example/g01026/laws.FnExactFilledBins", spec := "fnExactFilledBins", unfollowed := true, recurses := true, apart := false }
def FnExactFilledBinsSaid : Prop := fnExactFilledBinsRow.holds Try.pinned (OpenSpec.ofChange fnExactFilledBinsSpec)

/-- ITS FALSE NEIGHBOUR: 'it returns false'. Refute it at one input. -/
def fnExactFilledBinsWrong : ChangeSpec := { name := "fnExactFilledBins", fn := fun _ => fun
  | [d1, d2, d3] => { results := [.lit (.bool false)], args := [d1, d2, d3] }
  | _ => none }
def FnExactFilledBinsWrongFalsely : Prop := fnExactFilledBinsRow.holds Try.pinned (OpenSpec.ofChange fnExactFilledBinsWrong)

/-- 'laws.FnExactPairFor': WHATEVER THE INPUT: true; the input reads as it did. -/
def fnExactPairForSpec : ChangeSpec := { name := "fnExactPairFor", fn := fun _ => fun
  | [d1, d2] => { results := [.lit (.bool true)], args := [d1, d2] }
  | _ => none }
def fnExactPairForRow : OpenClaim := { program := "ytiinjnghnfofpaa", sum := "3290c76b661ea13feeec7dac8177507627e7afd4fef9101f3706137076a8d2b6", func := "loop.example/g01026/laws.FnExactPairFor", spec := "fnExactPairFor", unfollowed := true, recurses := true, apart := false }
def FnExactPairForSaid : Prop := fnExactPairForRow.holds Try.pinned (OpenSpec.ofChange fnExactPairForSpec)

/-- ITS FALSE NEIGHBOUR: 'it returns false'. Refute it at one input. -/
def fnExactPairForWrong : ChangeSpec := { name := "fnExactPairFor", fn := fun _ => fun
  | [d1, d2] => { results := [.lit (.bool false)], args := [d1, d2] }
  | _ => none }
def FnExactPairForWrongFalsely : Prop := fnExactPairForRow.holds Try.pinned (OpenSpec.ofChange fnExactPairForWrong)

/-- 'laws.FnExactRefineExtremum': WHATEVER THE INPUT: true; the input reads as it did. -/
def fnExactRefineExtremumSpec : ChangeSpec := { name := "fnExactRefineExtremum", fn := fun _ => fun
  | [d1, d2] => { results := [.lit (.bool true)], args := [d1, d2] }
  | _ => none }
def fnExactRefineExtremumRow : OpenClaim := { program := "ytiinjnghnfofpaa", sum := "3290c76b661ea13feeec7dac8177507627e7afd4fef9101f3706137076a8d2b6", func := "loop.example/g01026/laws.FnExactRefineExtremum", spec := "fnExactRefineExtremum", apart := false }
def FnExactRefineExtremumSaid : Prop := fnExactRefineExtremumRow.holds Try.pinned (OpenSpec.ofChange fnExactRefineExtremumSpec)

/-- ITS FALSE NEIGHBOUR: 'it returns false'. Refute it at one input. -/
def fnExactRefineExtremumWrong : ChangeSpec := { name := "fnExactRefineExtremum", fn := fun _ => fun
  | [d1, d2] => { results := [.lit (.bool false)], args := [d1, d2] }
  | _ => none }
def FnExactRefineExtremumWrongFalsely : Prop := fnExactRefineExtremumRow.holds Try.pinned (OpenSpec.ofChange fnExactRefineExtremumWrong)

/-- 'laws.FnExactPhaseCounts': WHATEVER THE INPUT: true; the input reads as it did. -/
def fnExactPhaseCountsSpec : ChangeSpec := { name := "fnExactPhaseCounts", fn := fun _ => fun
  | [d1, d2, d3] => { results := [.lit (.bool true)], args := [d1, d2, d3] }
  | _ => none }
def fnExactPhaseCountsRow : OpenClaim := { program := "ytiinjnghnfofpaa", sum := "3290c76b661ea13feeec7dac8177507627e7afd4fef9101f3706137076a8d2b6", func := "loop.example/g01026/laws.FnExactPhaseCounts", spec := "fnExactPhaseCounts", apart := false }
def FnExactPhaseCountsSaid : Prop := fnExactPhaseCountsRow.holds Try.pinned (OpenSpec.ofChange fnExactPhaseCountsSpec)

/-- ITS FALSE NEIGHBOUR: 'it returns false'. Refute it at one input. -/
def fnExactPhaseCountsWrong : ChangeSpec := { name := "fnExactPhaseCounts", fn := fun _ => fun
  | [d1, d2, d3] => { results := [.lit (.bool false)], args := [d1, d2, d3] }
  | _ => none }
def FnExactPhaseCountsWrongFalsely : Prop := fnExactPhaseCountsRow.holds Try.pinned (OpenSpec.ofChange fnExactPhaseCountsWrong)

/-- 'laws.FnExactPhaseMeans': WHATEVER THE INPUT: true; the input reads as it did. -/
def fnExactPhaseMeansSpec : ChangeSpec := { name := "fnExactPhaseMeans", fn := fun _ => fun
  | [d1, d2, d3] => { results := [.lit (.bool true)], args := [d1, d2, d3] }
  | _ => none }
def fnExactPhaseMeansRow : OpenClaim := { program := "ytiinjnghnfofpaa", sum := "3290c76b661ea13feeec7dac8177507627e7afd4fef9101f3706137076a8d2b6", func := "loop.example/g01026/laws.FnExactPhaseMeans", spec := "fnExactPhaseMeans", apart := false }
def FnExactPhaseMeansSaid : Prop := fnExactPhaseMeansRow.holds Try.pinned (OpenSpec.ofChange fnExactPhaseMeansSpec)

/-- ITS FALSE NEIGHBOUR: 'it returns false'. Refute it at one input. -/
def fnExactPhaseMeansWrong : ChangeSpec := { name := "fnExactPhaseMeans", fn := fun _ => fun
  | [d1, d2, d3] => { results := [.lit (.bool false)], args := [d1, d2, d3] }
  | _ => none }
def FnExactPhaseMeansWrongFalsely : Prop := fnExactPhaseMeansRow.holds Try.pinned (OpenSpec.ofChange fnExactPhaseMeansWrong)

/-- 'laws.FnExactMagGaps': WHATEVER THE INPUT: true; the input reads as it did. -/
def fnExactMagGapsSpec : ChangeSpec := { name := "fnExactMagGaps", fn := fun _ => fun
  | [d1, d2] => { results := [.lit (.bool true)], args := [d1, d2] }
  | _ => none }
def fnExactMagGapsRow : OpenClaim := { program := "ytiinjnghnfofpaa", sum := "3290c76b661ea13feeec7dac8177507627e7afd4fef9101f3706137076a8d2b6", func := "loop.example/g01026/laws.FnExactMagGaps", spec := "fnExactMagGaps", unfollowed := true, recurses := true, apart := false }
def FnExactMagGapsSaid : Prop := fnExactMagGapsRow.holds Try.pinned (OpenSpec.ofChange fnExactMagGapsSpec)

/-- ITS FALSE NEIGHBOUR: 'it returns false'. Refute it at one input. -/
def fnExactMagGapsWrong : ChangeSpec := { name := "fnExactMagGaps", fn := fun _ => fun
  | [d1, d2] => { results := [.lit (.bool false)], args := [d1, d2] }
  | _ => none }
def FnExactMagGapsWrongFalsely : Prop := fnExactMagGapsRow.holds Try.pinned (OpenSpec.ofChange fnExactMagGapsWrong)

/-- 'laws.FnExactCrossingsOf': WHATEVER THE INPUT: true; the input reads as it did. -/
def fnExactCrossingsOfSpec : ChangeSpec := { name := "fnExactCrossingsOf", fn := fun _ => fun
  | [d1, d2] => { results := [.lit (.bool true)], args := [d1, d2] }
  | _ => none }
def fnExactCrossingsOfRow : OpenClaim := { program := "ytiinjnghnfofpaa", sum := "3290c76b661ea13feeec7dac8177507627e7afd4fef9101f3706137076a8d2b6", func := "loop.example/g01026/laws.FnExactCrossingsOf", spec := "fnExactCrossingsOf", apart := false }
def FnExactCrossingsOfSaid : Prop := fnExactCrossingsOfRow.holds Try.pinned (OpenSpec.ofChange fnExactCrossingsOfSpec)

/-- ITS FALSE NEIGHBOUR: 'it returns false'. Refute it at one input. -/
def fnExactCrossingsOfWrong : ChangeSpec := { name := "fnExactCrossingsOf", fn := fun _ => fun
  | [d1, d2] => { results := [.lit (.bool false)], args := [d1, d2] }
  | _ => none }
def FnExactCrossingsOfWrongFalsely : Prop := fnExactCrossingsOfRow.holds Try.pinned (OpenSpec.ofChange fnExactCrossingsOfWrong)

/-- 'laws.FnExactWholeDispersion': WHATEVER THE INPUT: true; the input reads as it did. -/
def fnExactWholeDispersionSpec : ChangeSpec := { name := "fnExactWholeDispersion", fn := fun _ => fun
  | [d] => { results := [.lit (.bool true)], args := [d] }
  | _ => none }
def fnExactWholeDispersionRow : OpenClaim := { program := "ytiinjnghnfofpaa", sum := "3290c76b661ea13feeec7dac8177507627e7afd4fef9101f3706137076a8d2b6", func := "loop.example/g01026/laws.FnExactWholeDispersion", spec := "fnExactWholeDispersion", apart := false }
def FnExactWholeDispersionSaid : Prop := fnExactWholeDispersionRow.holds Try.pinned (OpenSpec.ofChange fnExactWholeDispersionSpec)

/-- ITS FALSE NEIGHBOUR: 'it returns false'. Refute it at one input. -/
def fnExactWholeDispersionWrong : ChangeSpec := { name := "fnExactWholeDispersion", fn := fun _ => fun
  | [d] => { results := [.lit (.bool false)], args := [d] }
  | _ => none }
def FnExactWholeDispersionWrongFalsely : Prop := fnExactWholeDispersionRow.holds Try.pinned (OpenSpec.ofChange fnExactWholeDispersionWrong)

/-- 'laws.FnExactDispersionOf': WHATEVER THE INPUT: true; the input reads as it did. -/
def fnExactDispersionOfSpec : ChangeSpec := { name := "fnExactDispersionOf", fn := fun _ => fun
  | [d1, d2, d3] => { results := [.lit (.bool true)], args := [d1, d2, d3] }
  | _ => none }
def fnExactDispersionOfRow : OpenClaim := { program := "ytiinjnghnfofpaa", sum := "3290c76b661ea13feeec7dac8177507627e7afd4fef9101f3706137076a8d2b6", func := "loop.example/g01026/laws.FnExactDispersionOf", spec := "fnExactDispersionOf", apart := false }
def FnExactDispersionOfSaid : Prop := fnExactDispersionOfRow.holds Try.pinned (OpenSpec.ofChange fnExactDispersionOfSpec)

/-- ITS FALSE NEIGHBOUR: 'it returns false'. Refute it at one input. -/
def fnExactDispersionOfWrong : ChangeSpec := { name := "fnExactDispersionOf", fn := fun _ => fun
  | [d1, d2, d3] => { results := [.lit (.bool false)], args := [d1, d2, d3] }
  | _ => none }
def FnExactDispersionOfWrongFalsely : Prop := fnExactDispersionOfRow.holds Try.pinned (OpenSpec.ofChange fnExactDispersionOfWrong)

/-- 'laws.FnExactThetaOf': WHATEVER THE INPUT: true; the input reads as it did. -/
def fnExactThetaOfSpec : ChangeSpec := { name := "fnExactThetaOf", fn := fun _ => fun
  | [d1, d2, d3] => { results := [.lit (.bool true)], args := [d1, d2, d3] }
  | _ => none }
def fnExactThetaOfRow : OpenClaim := { program := "ytiinjnghnfofpaa", sum := "3290c76b661ea13feeec7dac8177507627e7afd4fef9101f3706137076a8d2b6", func := "loop.example/g01026/laws.FnExactThetaOf", spec := "fnExactThetaOf", apart := false }
def FnExactThetaOfSaid : Prop := fnExactThetaOfRow.holds Try.pinned (OpenSpec.ofChange fnExactThetaOfSpec)

/-- ITS FALSE NEIGHBOUR: 'it returns false'. Refute it at one input. -/
def fnExactThetaOfWrong : ChangeSpec := { name := "fnExactThetaOf", fn := fun _ => fun
  | [d1, d2, d3] => { results := [.lit (.bool false)], args := [d1, d2, d3] }
  | _ => none }
def FnExactThetaOfWrongFalsely : Prop := fnExactThetaOfRow.holds Try.pinned (OpenSpec.ofChange fnExactThetaOfWrong)

/-- 'laws.FnExactBestByBins': WHATEVER THE INPUT: true; the input reads as it did. -/
def fnExactBestByBinsSpec : ChangeSpec := { name := "fnExactBestByBins", fn := fun _ => fun
  | [d1, d2, d3] => { results := [.lit (.bool true)], args := [d1, d2, d3] }
  | _ => none }
def fnExactBestByBinsRow : OpenClaim := { program := "ytiinjnghnfofpaa", sum := "3290c76b661ea13feeec7dac8177507627e7afd4fef9101f3706137076a8d2b6", func := "loop.example/g01026/laws.FnExactBestByBins", spec := "fnExactBestByBins", apart := false }
def FnExactBestByBinsSaid : Prop := fnExactBestByBinsRow.holds Try.pinned (OpenSpec.ofChange fnExactBestByBinsSpec)

/-- ITS FALSE NEIGHBOUR: 'it returns false'. Refute it at one input. -/
def fnExactBestByBinsWrong : ChangeSpec := { name := "fnExactBestByBins", fn := fun _ => fun
  | [d1, d2, d3] => { results := [.lit (.bool false)], args := [d1, d2, d3] }
  | _ => none }
def FnExactBestByBinsWrongFalsely : Prop := fnExactBestByBinsRow.holds Try.pinned (OpenSpec.ofChange fnExactBestByBinsWrong)

/-- 'laws.FnExactDispersionsOf': WHATEVER THE INPUT: true; the input reads as it did. -/
def fnExactDispersionsOfSpec : ChangeSpec := { name := "fnExactDispersionsOf", fn := fun _ => fun
  | [d1, d2, d3] => { results := [.lit (.bool true)], args := [d1, d2, d3] }
  | _ => none }
def fnExactDispersionsOfRow : OpenClaim := { program := "ytiinjnghnfofpaa", sum := "3290c76b661ea13feeec7dac8177507627e7afd4fef9101f3706137076a8d2b6", func := "loop.example/g01026/laws.FnExactDispersionsOf", spec := "fnExactDispersionsOf", apart := false }
def FnExactDispersionsOfSaid : Prop := fnExactDispersionsOfRow.holds Try.pinned (OpenSpec.ofChange fnExactDispersionsOfSpec)

/-- ITS FALSE NEIGHBOUR: 'it returns false'. Refute it at one input. -/
def fnExactDispersionsOfWrong : ChangeSpec := { name := "fnExactDispersionsOf", fn := fun _ => fun
  | [d1, d2, d3] => { results := [.lit (.bool false)], args := [d1, d2, d3] }
  | _ => none }
def FnExactDispersionsOfWrongFalsely : Prop := fnExactDispersionsOfRow.holds Try.pinned (OpenSpec.ofChange fnExactDispersionsOfWrong)

/- THE SECOND FORM. 'bulk': how many values and letters a reading holds, each counted each time it is reached (what is shared counts as often as it is met; a slice's spare places count too). A statement '..UptoSaid' is the law's where the arguments, and the package variables that the reading takes, are together of bulk at most 1048576: NARROWER than '..Said'. Prove '..Said' where nothing that the law and all that it calls make is longer than what came in: it says more and counts as full. Else prove '..UptoSaid'. A law counts once. -/
mutual
def uptoBulk {H : Type} : DataW H → Nat
  | .lit (.string bytes) => bytes.length + 1
  | .lit _ => 1
  | .nil => 1
  | .ptr d => uptoBulk d + 1
  | .slice elems spare => uptoBulkAll elems + uptoBulkAll spare + 1
  | .agg parts => uptoBulkAll parts + 1
  | .iface _ d => uptoBulk d + 1
  | .map entries => uptoBulkEntries entries + 1
  | .held _ => 1
def uptoBulkAll {H : Type} : List (DataW H) → Nat
  | [] => 0
  | d :: r => uptoBulk d + uptoBulkAll r
def uptoBulkEntries {H : Type} : List (Lit × DataW H) → Nat
  | [] => 0
  | x :: r => uptoBulkEntry x + uptoBulkEntries r
def uptoBulkEntry {H : Type} : Lit × DataW H → Nat
  | (.string bytes, d) => bytes.length + uptoBulk d + 1
  | (_, d) => uptoBulk d + 1
 end
def uptoSmall : (H : Type) → List (DataW H) → Bool := fun _ ds => decide (uptoBulkAll ds ≤ 1048576)
def OpenSpec.upto (s : _root_.Go.ChangeSpec) : _root_.Go.OpenSpec := { _root_.Go.OpenSpec.ofChange s with cond := some uptoSmall }

/-- 'laws.FnExactFilledBins', WHERE WHAT IT READS IS OF BULK AT MOST 1048576: true; the input reads as it did. -/
def fnExactFilledBinsUptoRow : OpenClaim := { program := "ytiinjnghnfofpaa", sum := "3290c76b661ea13feeec7dac8177507627e7afd4fef9101f3706137076a8d2b6", func := "loop.example/g01026/laws.FnExactFilledBins", spec := "fnExactFilledBins", unfollowed := true, recurses := true, apart := false, narrowed := true }
def FnExactFilledBinsUptoSaid : Prop := fnExactFilledBinsUptoRow.holds Try.pinned (OpenSpec.upto fnExactFilledBinsSpec)

/-- 'laws.FnExactPairFor', WHERE WHAT IT READS IS OF BULK AT MOST 1048576: true; the input reads as it did. -/
def fnExactPairForUptoRow : OpenClaim := { program := "ytiinjnghnfofpaa", sum := "3290c76b661ea13feeec7dac8177507627e7afd4fef9101f3706137076a8d2b6", func := "loop.example/g01026/laws.FnExactPairFor", spec := "fnExactPairFor", unfollowed := true, recurses := true, apart := false, narrowed := true }
def FnExactPairForUptoSaid : Prop := fnExactPairForUptoRow.holds Try.pinned (OpenSpec.upto fnExactPairForSpec)

/-- 'laws.FnExactRefineExtremum', WHERE WHAT IT READS IS OF BULK AT MOST 1048576: true; the input reads as it did. -/
def fnExactRefineExtremumUptoRow : OpenClaim := { program := "ytiinjnghnfofpaa", sum := "3290c76b661ea13feeec7dac8177507627e7afd4fef9101f3706137076a8d2b6", func := "loop.example/g01026/laws.FnExactRefineExtremum", spec := "fnExactRefineExtremum", apart := false, narrowed := true }
def FnExactRefineExtremumUptoSaid : Prop := fnExactRefineExtremumUptoRow.holds Try.pinned (OpenSpec.upto fnExactRefineExtremumSpec)

/-- 'laws.FnExactPhaseCounts', WHERE WHAT IT READS IS OF BULK AT MOST 1048576: true; the input reads as it did. -/
def fnExactPhaseCountsUptoRow : OpenClaim := { program := "ytiinjnghnfofpaa", sum := "3290c76b661ea13feeec7dac8177507627e7afd4fef9101f3706137076a8d2b6", func := "loop.example/g01026/laws.FnExactPhaseCounts", spec := "fnExactPhaseCounts", apart := false, narrowed := true }
def FnExactPhaseCountsUptoSaid : Prop := fnExactPhaseCountsUptoRow.holds Try.pinned (OpenSpec.upto fnExactPhaseCountsSpec)

/-- 'laws.FnExactPhaseMeans', WHERE WHAT IT READS IS OF BULK AT MOST 1048576: true; the input reads as it did. -/
def fnExactPhaseMeansUptoRow : OpenClaim := { program := "ytiinjnghnfofpaa", sum := "3290c76b661ea13feeec7dac8177507627e7afd4fef9101f3706137076a8d2b6", func := "loop.example/g01026/laws.FnExactPhaseMeans", spec := "fnExactPhaseMeans", apart := false, narrowed := true }
def FnExactPhaseMeansUptoSaid : Prop := fnExactPhaseMeansUptoRow.holds Try.pinned (OpenSpec.upto fnExactPhaseMeansSpec)

/-- 'laws.FnExactMagGaps', WHERE WHAT IT READS IS OF BULK AT MOST 1048576: true; the input reads as it did. -/
def fnExactMagGapsUptoRow : OpenClaim := { program := "ytiinjnghnfofpaa", sum := "3290c76b661ea13feeec7dac8177507627e7afd4fef9101f3706137076a8d2b6", func := "loop.example/g01026/laws.FnExactMagGaps", spec := "fnExactMagGaps", unfollowed := true, recurses := true, apart := false, narrowed := true }
def FnExactMagGapsUptoSaid : Prop := fnExactMagGapsUptoRow.holds Try.pinned (OpenSpec.upto fnExactMagGapsSpec)

/-- 'laws.FnExactCrossingsOf', WHERE WHAT IT READS IS OF BULK AT MOST 1048576: true; the input reads as it did. -/
def fnExactCrossingsOfUptoRow : OpenClaim := { program := "ytiinjnghnfofpaa", sum := "3290c76b661ea13feeec7dac8177507627e7afd4fef9101f3706137076a8d2b6", func := "loop.example/g01026/laws.FnExactCrossingsOf", spec := "fnExactCrossingsOf", apart := false, narrowed := true }
def FnExactCrossingsOfUptoSaid : Prop := fnExactCrossingsOfUptoRow.holds Try.pinned (OpenSpec.upto fnExactCrossingsOfSpec)

/-- 'laws.FnExactWholeDispersion', WHERE WHAT IT READS IS OF BULK AT MOST 1048576: true; the input reads as it did. -/
def fnExactWholeDispersionUptoRow : OpenClaim := { program := "ytiinjnghnfofpaa", sum := "3290c76b661ea13feeec7dac8177507627e7afd4fef9101f3706137076a8d2b6", func := "loop.example/g01026/laws.FnExactWholeDispersion", spec := "fnExactWholeDispersion", apart := false, narrowed := true }
def FnExactWholeDispersionUptoSaid : Prop := fnExactWholeDispersionUptoRow.holds Try.pinned (OpenSpec.upto fnExactWholeDispersionSpec)

/-- 'laws.FnExactDispersionOf', WHERE WHAT IT READS IS OF BULK AT MOST 1048576: true; the input reads as it did. -/
def fnExactDispersionOfUptoRow : OpenClaim := { program := "ytiinjnghnfofpaa", sum := "3290c76b661ea13feeec7dac8177507627e7afd4fef9101f3706137076a8d2b6", func := "loop.example/g01026/laws.FnExactDispersionOf", spec := "fnExactDispersionOf", apart := false, narrowed := true }
def FnExactDispersionOfUptoSaid : Prop := fnExactDispersionOfUptoRow.holds Try.pinned (OpenSpec.upto fnExactDispersionOfSpec)

/-- 'laws.FnExactThetaOf', WHERE WHAT IT READS IS OF BULK AT MOST 1048576: true; the input reads as it did. -/
def fnExactThetaOfUptoRow : OpenClaim := { program := "ytiinjnghnfofpaa", sum := "3290c76b661ea13feeec7dac8177507627e7afd4fef9101f3706137076a8d2b6", func := "loop.example/g01026/laws.FnExactThetaOf", spec := "fnExactThetaOf", apart := false, narrowed := true }
def FnExactThetaOfUptoSaid : Prop := fnExactThetaOfUptoRow.holds Try.pinned (OpenSpec.upto fnExactThetaOfSpec)

/-- 'laws.FnExactBestByBins', WHERE WHAT IT READS IS OF BULK AT MOST 1048576: true; the input reads as it did. -/
def fnExactBestByBinsUptoRow : OpenClaim := { program := "ytiinjnghnfofpaa", sum := "3290c76b661ea13feeec7dac8177507627e7afd4fef9101f3706137076a8d2b6", func := "loop.example/g01026/laws.FnExactBestByBins", spec := "fnExactBestByBins", apart := false, narrowed := true }
def FnExactBestByBinsUptoSaid : Prop := fnExactBestByBinsUptoRow.holds Try.pinned (OpenSpec.upto fnExactBestByBinsSpec)

/-- 'laws.FnExactDispersionsOf', WHERE WHAT IT READS IS OF BULK AT MOST 1048576: true; the input reads as it did. -/
def fnExactDispersionsOfUptoRow : OpenClaim := { program := "ytiinjnghnfofpaa", sum := "3290c76b661ea13feeec7dac8177507627e7afd4fef9101f3706137076a8d2b6", func := "loop.example/g01026/laws.FnExactDispersionsOf", spec := "fnExactDispersionsOf", apart := false, narrowed := true }
def FnExactDispersionsOfUptoSaid : Prop := fnExactDispersionsOfUptoRow.holds Try.pinned (OpenSpec.upto fnExactDispersionsOfSpec)

end Rows
end Go.Proofs.Ytiinjnghnfofpaa
