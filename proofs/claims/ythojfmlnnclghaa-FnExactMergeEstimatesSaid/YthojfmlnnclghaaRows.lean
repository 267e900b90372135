/-
  No cell of these rows narrows 'for every input' (looked for: loops, veiled, ifaces, maps, wideKeys, modest, calm, conditions, laid).
  DERIVED. THE GIVEN ROWS OF THIS SEAT. 5 by the template 'for every input the law returns true; each argument reads behind the call as it read before'; 0 by the template 'total and deterministic' (their statements: YthojfmlnnclghaaTotals.lean).
  GIVEN WITH THE SEED: the statements are not yours to turn. If you find one false, say at which input.
  Laid BY PROGRAM, IN A SANDBOX (cutbox-rows.mjs): the forced cells as the released guide's own fill.sh prints them over the translation f2c1a0be702128a2… (all of the seat's roots in one cut). By AI agents, Wed Nov 11 2026. No macro, syntax, notation, axiom, sorry.
-/
import Derived.Test.YthojfmlnnclghaaChecked
import GoSem.Claim
import GoSem.ClaimJoined
import GoSem.ClaimMapViews
import Derived.JoinedTies
import Derived.KernelRfl
namespace Go.Proofs.Ythojfmlnnclghaa
/- THE CELL 'sum', in the pinned program and in every row, IS THE sha256 OF THE DUMP (.gsa) THAT YthojfmlnnclghaaProg.lean LOADS. Nothing in Lean hashes anything: it is a label: what it is worth is what the hold of that sum in a sandbox is worth. -/
noncomputable def Try.pinned : Pinned := { name := "ythojfmlnnclghaa", sum := "f2c1a0be702128a2db437968ad67306f8cc9bc5f6e965172331a78796aa92bc6", checked := Try.checked }
namespace Rows
def none {H : Type} : Left H := { results := [], args := [] }

/-- 'laws.FnExactStarsIn': WHATEVER THE INPUT: true; the input reads as it did. -/
def fnExactStarsInSpec : ChangeSpec := { name := "fnExactStarsIn", fn := fun _ => fun
  | [d] => { results := [.lit (.bool true)], args := [d] }
  | _ => none }
def fnExactStarsInRow : OpenClaim := { program := "ythojfmlnnclghaa", sum := "f2c1a0be702128a2db437968ad67306f8cc9bc5f6e965172331a78796aa92bc6", func := "loop.example/g01026/laws.FnExactStarsIn", spec := "fnExactStarsIn", inPlace := ["internal/bytealg.abigen_runtime_cmpstring"], unfollowed := true, recurses := true, apart := false }
def FnExactStarsInSaid : Prop := fnExactStarsInRow.holds Try.pinned (OpenSpec.ofChange fnExactStarsInSpec)

/-- ITS FALSE NEIGHBOUR: 'it returns false'. Refute it at one input. -/
def fnExactStarsInWrong : ChangeSpec := { name := "fnExactStarsIn", fn := fun _ => fun
  | [d] => { results := [.lit (.bool false)], args := [d] }
  | _ => none }
def FnExactStarsInWrongFalsely : Prop := fnExactStarsInRow.holds Try.pinned (OpenSpec.ofChange fnExactStarsInWrong)

/-- 'laws.FnExactContradictions': WHATEVER THE INPUT: true; the input reads as it did. -/
def fnExactContradictionsSpec : ChangeSpec := { name := "fnExactContradictions", fn := fun _ => fun
  | [d1, d2, d3] => { results := [.lit (.bool true)], args := [d1, d2, d3] }
  | _ => none }
def fnExactContradictionsRow : OpenClaim := { program := "ythojfmlnnclghaa", sum := "f2c1a0be702128a2db437968ad67306f8cc9bc5f6e965172331a78796aa92bc6", func := "loop.example/g01026/laws.FnExactContradictions", spec := "fnExactContradictions", inPlace := ["internal/bytealg.abigen_runtime_cmpstring"], unfollowed := true, recurses := true, apart := false }
def FnExactContradictionsSaid : Prop := fnExactContradictionsRow.holds Try.pinned (OpenSpec.ofChange fnExactContradictionsSpec)

/-- ITS FALSE NEIGHBOUR: 'it returns false'. Refute it at one input. -/
def fnExactContradictionsWrong : ChangeSpec := { name := "fnExactContradictions", fn := fun _ => fun
  | [d1, d2, d3] => { results := [.lit (.bool false)], args := [d1, d2, d3] }
  | _ => none }
def FnExactContradictionsWrongFalsely : Prop := fnExactContradictionsRow.holds Try.pinned (OpenSpec.ofChange fnExactContradictionsWrong)

/-- 'laws.FnExactCurveOf': WHATEVER THE INPUT: true; the input reads as it did. -/
def fnExactCurveOfSpec : ChangeSpec := { name := "fnExactCurveOf", fn := fun _ => fun
  | [d1, d2] => { results := [.lit (.bool true)], args := [d1, d2] }
  | _ => none }
def fnExactCurveOfRow : OpenClaim := { program := "ythojfmlnnclghaa", sum := "f2c1a0be702128a2db437968ad67306f8cc9bc5f6e965172331a78796aa92bc6", func := "loop.example/g01026/laws.FnExactCurveOf", spec := "fnExactCurveOf", inPlace := ["internal/bytealg.abigen_runtime_cmpstring"], unfollowed := true, recurses := true, apart := false }
def FnExactCurveOfSaid : Prop := fnExactCurveOfRow.holds Try.pinned (OpenSpec.ofChange fnExactCurveOfSpec)

/-- ITS FALSE NEIGHBOUR: 'it returns false'. Refute it at one input. -/
def fnExactCurveOfWrong : ChangeSpec := { name := "fnExactCurveOf", fn := fun _ => fun
  | [d1, d2] => { results := [.lit (.bool false)], args := [d1, d2] }
  | _ => none }
def FnExactCurveOfWrongFalsely : Prop := fnExactCurveOfRow.holds Try.pinned (OpenSpec.ofChange fnExactCurveOfWrong)

/-- 'laws.FnExactAddEstimate': WHATEVER THE INPUT: true; the input reads as it did. -/
def fnExactAddEstimateSpec : ChangeSpec := { name := "fnExactAddEstimate", fn := fun _ => fun
  | [d1, d2] => { results := [.lit (.bool true)], args := [d1, d2] }
  | _ => none }
def fnExactAddEstimateRow : OpenClaim := { program := "ythojfmlnnclghaa", sum := "f2c1a0be702128a2db437968ad67306f8cc9bc5f6e965172331a78796aa92bc6", func := "loop.example/g01026/laws.FnExactAddEstimate", spec := "fnExactAddEstimate", inPlace := ["internal/bytealg.abigen_runtime_cmpstring", "slices.overlaps[loop.example/g01026/impl.Estimate]"], unfollowed := true, recurses := true, apart := false }
def FnExactAddEstimateSaid : Prop := fnExactAddEstimateRow.holds Try.pinned (OpenSpec.ofChange fnExactAddEstimateSpec)

/-- ITS FALSE NEIGHBOUR: 'it returns false'. Refute it at one input. -/
def fnExactAddEstimateWrong : ChangeSpec := { name := "fnExactAddEstimate", fn := fun _ => fun
  | [d1, d2] => { results := [.lit (.bool false)], args := [d1, d2] }
  | _ => none }
def FnExactAddEstimateWrongFalsely : Prop := fnExactAddEstimateRow.holds Try.pinned (OpenSpec.ofChange fnExactAddEstimateWrong)

/-- 'laws.FnExactMergeEstimates': WHATEVER THE INPUT: true; the input reads as it did. -/
def fnExactMergeEstimatesSpec : ChangeSpec := { name := "fnExactMergeEstimates", fn := fun _ => fun
  | [d1, d2] => { results := [.lit (.bool true)], args := [d1, d2] }
  | _ => none }
def fnExactMergeEstimatesRow : OpenClaim := { program := "ythojfmlnnclghaa", sum := "f2c1a0be702128a2db437968ad67306f8cc9bc5f6e965172331a78796aa92bc6", func := "loop.example/g01026/laws.FnExactMergeEstimates", spec := "fnExactMergeEstimates", inPlace := ["internal/bytealg.abigen_runtime_cmpstring", "slices.overlaps[loop.example/g01026/impl.Estimate]"], unfollowed := true, recurses := true, apart := false }
def FnExactMergeEstimatesSaid : Prop := fnExactMergeEstimatesRow.holds Try.pinned (OpenSpec.ofChange fnExactMergeEstimatesSpec)

/-- ITS FALSE NEIGHBOUR: 'it returns false'. Refute it at one input. -/
def fnExactMergeEstimatesWrong : ChangeSpec := { name := "fnExactMergeEstimates", fn := fun _ => fun
  | [d1, d2] => { results := [.lit (.bool false)], args := [d1, d2] }
  | _ => none }
def FnExactMergeEstimatesWrongFalsely : Prop := fnExactMergeEstimatesRow.holds Try.pinned (OpenSpec.ofChange fnExactMergeEstimatesWrong)

/- THE SECOND FORM. 'bulk': how many values and letters a reading holds, each counted each time it is reached (what is shared counts as often as it is met; a slice's spare places count too). A statement '..UptoSaid' is the law's where the arguments, and the package variables that the reading takes, are together of bulk at most 1048576: NARROWER than '..Said'. Prove '..Said' where nothing that the law and all that it calls make is longer than what came in: it says more and counts as full. Else prove '..UptoSaid'. A law counts once. -/
mutual
def uptoBulk {H : Type} : DataW H → Nat
  | .lit (.string bytes) => bytes.length + 1
  | .lit _ => 1
  | .nil => 1
  | .ptr d => uptoBulk d + 1
  | .slice elems spare => uptoBulkAll elems + uptoBulkAll spare + 1
  | .agg parts => uptoBulkAll parts + 1
  | .iface _ d => uptoBulk d + 1
  | .map entries => uptoBulkEntries entries + 1
  | .held _ => 1
def uptoBulkAll {H : Type} : List (DataW H) → Nat
  | [] => 0
  | d :: r => uptoBulk d + uptoBulkAll r
def uptoBulkEntries {H : Type} : List (Lit × DataW H) → Nat
  | [] => 0
  | x :: r => uptoBulkEntry x + uptoBulkEntries r
def uptoBulkEntry {H : Type} : Lit × DataW H → Nat
  | (.string bytes, d) => bytes.length + uptoBulk d + 1
  | (_, d) => uptoBulk d + 1
 end
def uptoSmall : (H : Type) → List (DataW H) → Bool := fun _ ds => decide (uptoBulkAll ds ≤ 1048576)
def OpenSpec.upto (s : _root_.Go.ChangeSpec) : _root_.Go.OpenSpec := { _root_.Go.OpenSpec.ofChange s with cond := some uptoSmall }

/-- 'laws.FnExactStarsIn', WHERE WHAT IT READS IS OF BULK AT MOST 1048576: true; the input reads as it did. -/
def fnExactStarsInUptoRow : OpenClaim := { program := "ythojfmlnnclghaa", sum := "f2c1a0be702128a2db437968ad67306f8cc9bc5f6e965172331a78796aa92bc6", func := "loop.example/g01026/laws.FnExactStarsIn", spec := "fnExactStarsIn", inPlace := ["internal/bytealg.abigen_runtime_cmpstring"], unfollowed := true, recurses := true, apart := false, narrowed := true }
def FnExactStarsInUptoSaid : Prop := fnExactStarsInUptoRow.holds Try.pinned (OpenSpec.upto fnExactStarsInSpec)

/-- 'laws.FnExactContradictions', WHERE WHAT IT READS IS OF BULK AT MOST 1048576: true; the input reads as it did. -/
def fnExactContradictionsUptoRow : OpenClaim := { program := "ythojfmlnnclghaa", sum := "f2c1a0be702128a2db437968ad67306f8cc9bc5f6e965172331a78796aa92bc6", func := "loop.example/g01026/laws.FnExactContradictions", spec := "fnExactContradictions", inPlace := ["internal/bytealg.abigen_runtime_cmpstring"], unfollowed := true, recurses := true, apart := false, narrowed := true }
def FnExactContradictionsUptoSaid : Prop := fnExactContradictionsUptoRow.holds Try.pinned (OpenSpec.upto fnExactContradictionsSpec)

/-- 'laws.FnExactCurveOf', WHERE WHAT IT READS IS OF BULK AT MOST 1048576: true; the input reads as it did. -/
def fnExactCurveOfUptoRow : OpenClaim := { program := "ythojfmlnnclghaa", sum := "f2c1a0be702128a2db437968ad67306f8cc9bc5f6e965172331a78796aa92bc6", func := "loop.example/g01026/laws.FnExactCurveOf", spec := "fnExactCurveOf", inPlace := ["internal/bytealg.abigen_runtime_cmpstring"], unfollowed := true, recurses := true, apart := false, narrowed := true }
def FnExactCurveOfUptoSaid : Prop := fnExactCurveOfUptoRow.holds Try.pinned (OpenSpec.upto fnExactCurveOfSpec)

/-- 'laws.FnExactAddEstimate', WHERE WHAT IT READS IS OF BULK AT MOST 1048576: true; the input reads as it did. -/
def fnExactAddEstimateUptoRow : OpenClaim := { program := "ythojfmlnnclghaa", sum := "f2c1a0be702128a2db437968ad67306f8cc9bc5f6e965172331a78796aa92bc6", func := "loop.example/g01026/laws.FnExactAddEstimate", spec := "fnExactAddEstimate", inPlace := ["internal/bytealg.abigen_runtime_cmpstring", "slices.overlaps[loop.example/g01026/impl.Estimate]"], unfollowed := true, recurses := true, apart := false, narrowed := true }
def FnExactAddEstimateUptoSaid : Prop := fnExactAddEstimateUptoRow.holds Try.pinned (OpenSpec.upto fnExactAddEstimateSpec)

/-- 'laws.FnExactMergeEstimates', WHERE WHAT IT READS IS OF BULK AT MOST 1048576: true; the input reads as it did. -/
def fnExactMergeEstimatesUptoRow : OpenClaim := { program := "ythojfmlnnclghaa", sum := "f2c1a0be702128a2db437968ad67306f8cc9bc5f6e965172331a78796aa92bc6", func := "loop.example/g01026/laws.FnExactMergeEstimates", spec := "fnExactMergeEstimates", inPlace := ["internal/bytealg.abigen_runtime_cmpstring", "slices.overlaps[loop.example/g01026/impl.Estimate]"], unfollowed := true, recurses := true, apart := false, narrowed := true }
def FnExactMergeEstimatesUptoSaid : Prop := fnExactMergeEstimatesUptoRow.holds Try.pinned (OpenSpec.upto fnExactMergeEstimatesSpec)

end Rows
end Go.Proofs.Ythojfmlnnclghaa
