/-
  No cell of these rows narrows 'for every input' (looked for: loops, veiled, ifaces, maps, wideKeys, modest, calm, conditions, laid).
  DERIVED. THE GIVEN ROWS OF THIS SEAT. 12 by the template 'for every input the law returns true; each argument reads behind the call as it read before'; 0 by the template 'total and deterministic' (their statements: YtfpipbajlokheaaTotals.lean).
  GIVEN WITH THE SEED: the statements are not yours to turn. If you find one false, say at which input.
  Laid BY PROGRAM, IN A SANDBOX (cutbox-rows.mjs): the forced cells as the released guide's own fill.sh prints them over the translation cb44187f59b495ff… (all of the seat's roots in one cut). By AI agents, Wed Nov 11 2026. No macro, syntax, notation, axiom, sorry.
-/
import Derived.Test.YtfpipbajlokheaaChecked
import GoSem.Claim
import GoSem.ClaimJoined
import GoSem.ClaimMapViews
import Derived.JoinedTies
import Derived.KernelRfl
namespace Go.Proofs.Ytfpipbajlokheaa
/- THE CELL 'sum', in the pinned program and in every row, IS THE sha256 OF THE DUMP (.gsa) THAT YtfpipbajlokheaaProg.lean LOADS. Nothing in Lean hashes anything: it is a label: what it is worth is what the hold of that sum in a sandbox is worth. -/
noncomputable def Try.pinned : Pinned := { name := "ytfpipbajlokheaa", sum := "cb44187f59b495ffca54164348ff0c2ad4021be7cda3ffe49d671c2b0682490a", checked := Try.checked }
namespace Rows
def none {H : Type} : Left H := { results := [], args := [] }

/-- 'laws.FnExactAliasOf': WHATEVER THE INPUT: true; the input reads as it did. -/
def fnExactAliasOfSpec : ChangeSpec := { name := "fnExactAliasOf", fn := fun _ => fun
  | [d1, d2] => { results := [.lit (.bool true)], args := [d1, d2] }
  | _ => none }
def fnExactAliasOfRow : OpenClaim := { program := "ytfpipbajlokheaa", sum := "cb44187f59b495ffca54164348ff0c2ad4021be7cda3ffe49d671c2b0682490a", func := "loop.example/g01026/laws.FnExactAliasOf", spec := "fnExactAliasOf", unfollowed := true, recurses := true, apart := false }
def FnExactAliasOfSaid : Prop := fnExactAliasOfRow.holds Try.pinned (OpenSpec.ofChange fnExactAliasOfSpec)

/-- ITS FALSE NEIGHBOUR: 'it returns false'. Refute it at one input. -/
def fnExactAliasOfWrong : ChangeSpec := { name := "fnExactAliasOf", fn := fun _ => fun
  | [d1, d2] => { results := [.lit (.bool false)], args := [d1, d2] }
  | _ => none }
def FnExactAliasOfWrongFalsely : Prop := fnExactAliasOfRow.holds Try.pinned (OpenSpec.ofChange fnExactAliasOfWrong)

/-- 'laws.FnExactNearestMark': WHATEVER THE INPUT: true; the input reads as it did. -/
def fnExactNearestMarkSpec : ChangeSpec := { name := "fnExactNearestMark", fn := fun _ => fun
  | [d1, d2, d3] => { results := [.lit (.bool true)], args := [d1, d2, d3] }
  | _ => none }
def fnExactNearestMarkRow : OpenClaim := { program := "ytfpipbajlokheaa", sum := "cb44187f59b495ffca54164348ff0c2ad4021be7cda3ffe49d671c2b0682490a", func := "loop.example/g01026/laws.FnExactNearestMark", spec := "fnExactNearestMark", unfollowed := true, recurses := true, apart := false }
def FnExactNearestMarkSaid : Prop := fnExactNearestMarkRow.holds Try.pinned (OpenSpec.ofChange fnExactNearestMarkSpec)

/-- ITS FALSE NEIGHBOUR: 'it returns false'. Refute it at one input. -/
def fnExactNearestMarkWrong : ChangeSpec := { name := "fnExactNearestMark", fn := fun _ => fun
  | [d1, d2, d3] => { results := [.lit (.bool false)], args := [d1, d2, d3] }
  | _ => none }
def FnExactNearestMarkWrongFalsely : Prop := fnExactNearestMarkRow.holds Try.pinned (OpenSpec.ofChange fnExactNearestMarkWrong)

/-- 'laws.FnExactAmplitudeOf': WHATEVER THE INPUT: true; the input reads as it did. -/
def fnExactAmplitudeOfSpec : ChangeSpec := { name := "fnExactAmplitudeOf", fn := fun _ => fun
  | [d] => { results := [.lit (.bool true)], args := [d] }
  | _ => none }
def fnExactAmplitudeOfRow : OpenClaim := { program := "ytfpipbajlokheaa", sum := "cb44187f59b495ffca54164348ff0c2ad4021be7cda3ffe49d671c2b0682490a", func := "loop.example/g01026/laws.FnExactAmplitudeOf", spec := "fnExactAmplitudeOf", apart := false }
def FnExactAmplitudeOfSaid : Prop := fnExactAmplitudeOfRow.holds Try.pinned (OpenSpec.ofChange fnExactAmplitudeOfSpec)

/-- ITS FALSE NEIGHBOUR: 'it returns false'. Refute it at one input. -/
def fnExactAmplitudeOfWrong : ChangeSpec := { name := "fnExactAmplitudeOf", fn := fun _ => fun
  | [d] => { results := [.lit (.bool false)], args := [d] }
  | _ => none }
def FnExactAmplitudeOfWrongFalsely : Prop := fnExactAmplitudeOfRow.holds Try.pinned (OpenSpec.ofChange fnExactAmplitudeOfWrong)

/-- 'laws.FnExactVertexTime': WHATEVER THE INPUT: true; the input reads as it did. -/
def fnExactVertexTimeSpec : ChangeSpec := { name := "fnExactVertexTime", fn := fun _ => fun
  | [d1, d2, d3] => { results := [.lit (.bool true)], args := [d1, d2, d3] }
  | _ => none }
def fnExactVertexTimeRow : OpenClaim := { program := "ytfpipbajlokheaa", sum := "cb44187f59b495ffca54164348ff0c2ad4021be7cda3ffe49d671c2b0682490a", func := "loop.example/g01026/laws.FnExactVertexTime", spec := "fnExactVertexTime", apart := false }
def FnExactVertexTimeSaid : Prop := fnExactVertexTimeRow.holds Try.pinned (OpenSpec.ofChange fnExactVertexTimeSpec)

/-- ITS FALSE NEIGHBOUR: 'it returns false'. Refute it at one input. -/
def fnExactVertexTimeWrong : ChangeSpec := { name := "fnExactVertexTime", fn := fun _ => fun
  | [d1, d2, d3] => { results := [.lit (.bool false)], args := [d1, d2, d3] }
  | _ => none }
def FnExactVertexTimeWrongFalsely : Prop := fnExactVertexTimeRow.holds Try.pinned (OpenSpec.ofChange fnExactVertexTimeWrong)

/-- 'laws.FnExactMagAt': WHATEVER THE INPUT: true; the input reads as it did. -/
def fnExactMagAtSpec : ChangeSpec := { name := "fnExactMagAt", fn := fun _ => fun
  | [d1, d2] => { results := [.lit (.bool true)], args := [d1, d2] }
  | _ => none }
def fnExactMagAtRow : OpenClaim := { program := "ytfpipbajlokheaa", sum := "cb44187f59b495ffca54164348ff0c2ad4021be7cda3ffe49d671c2b0682490a", func := "loop.example/g01026/laws.FnExactMagAt", spec := "fnExactMagAt", apart := false }
def FnExactMagAtSaid : Prop := fnExactMagAtRow.holds Try.pinned (OpenSpec.ofChange fnExactMagAtSpec)

/-- ITS FALSE NEIGHBOUR: 'it returns false'. Refute it at one input. -/
def fnExactMagAtWrong : ChangeSpec := { name := "fnExactMagAt", fn := fun _ => fun
  | [d1, d2] => { results := [.lit (.bool false)], args := [d1, d2] }
  | _ => none }
def FnExactMagAtWrongFalsely : Prop := fnExactMagAtRow.holds Try.pinned (OpenSpec.ofChange fnExactMagAtWrong)

/-- 'laws.FnExactVarianceOf': WHATEVER THE INPUT: true; the input reads as it did. -/
def fnExactVarianceOfSpec : ChangeSpec := { name := "fnExactVarianceOf", fn := fun _ => fun
  | [d] => { results := [.lit (.bool true)], args := [d] }
  | _ => none }
def fnExactVarianceOfRow : OpenClaim := { program := "ytfpipbajlokheaa", sum := "cb44187f59b495ffca54164348ff0c2ad4021be7cda3ffe49d671c2b0682490a", func := "loop.example/g01026/laws.FnExactVarianceOf", spec := "fnExactVarianceOf", unfollowed := true, recurses := true, apart := false }
def FnExactVarianceOfSaid : Prop := fnExactVarianceOfRow.holds Try.pinned (OpenSpec.ofChange fnExactVarianceOfSpec)

/-- ITS FALSE NEIGHBOUR: 'it returns false'. Refute it at one input. -/
def fnExactVarianceOfWrong : ChangeSpec := { name := "fnExactVarianceOf", fn := fun _ => fun
  | [d] => { results := [.lit (.bool false)], args := [d] }
  | _ => none }
def FnExactVarianceOfWrongFalsely : Prop := fnExactVarianceOfRow.holds Try.pinned (OpenSpec.ofChange fnExactVarianceOfWrong)

/-- 'laws.FnExactBinOfPoints': WHATEVER THE INPUT: true; the input reads as it did. -/
def fnExactBinOfPointsSpec : ChangeSpec := { name := "fnExactBinOfPoints", fn := fun _ => fun
  | [d1, d2, d3] => { results := [.lit (.bool true)], args := [d1, d2, d3] }
  | _ => none }
def fnExactBinOfPointsRow : OpenClaim := { program := "ytfpipbajlokheaa", sum := "cb44187f59b495ffca54164348ff0c2ad4021be7cda3ffe49d671c2b0682490a", func := "loop.example/g01026/laws.FnExactBinOfPoints", spec := "fnExactBinOfPoints", apart := false }
def FnExactBinOfPointsSaid : Prop := fnExactBinOfPointsRow.holds Try.pinned (OpenSpec.ofChange fnExactBinOfPointsSpec)

/-- ITS FALSE NEIGHBOUR: 'it returns false'. Refute it at one input. -/
def fnExactBinOfPointsWrong : ChangeSpec := { name := "fnExactBinOfPoints", fn := fun _ => fun
  | [d1, d2, d3] => { results := [.lit (.bool false)], args := [d1, d2, d3] }
  | _ => none }
def FnExactBinOfPointsWrongFalsely : Prop := fnExactBinOfPointsRow.holds Try.pinned (OpenSpec.ofChange fnExactBinOfPointsWrong)

/-- 'laws.FnExactAddMark': WHATEVER THE INPUT: true; the input reads as it did. -/
def fnExactAddMarkSpec : ChangeSpec := { name := "fnExactAddMark", fn := fun _ => fun
  | [d1, d2] => { results := [.lit (.bool true)], args := [d1, d2] }
  | _ => none }
def fnExactAddMarkRow : OpenClaim := { program := "ytfpipbajlokheaa", sum := "cb44187f59b495ffca54164348ff0c2ad4021be7cda3ffe49d671c2b0682490a", func := "loop.example/g01026/laws.FnExactAddMark", spec := "fnExactAddMark", unfollowed := true, recurses := true, apart := false }
def FnExactAddMarkSaid : Prop := fnExactAddMarkRow.holds Try.pinned (OpenSpec.ofChange fnExactAddMarkSpec)

/-- ITS FALSE NEIGHBOUR: 'it returns false'. Refute it at one input. -/
def fnExactAddMarkWrong : ChangeSpec := { name := "fnExactAddMark", fn := fun _ => fun
  | [d1, d2] => { results := [.lit (.bool false)], args := [d1, d2] }
  | _ => none }
def FnExactAddMarkWrongFalsely : Prop := fnExactAddMarkRow.holds Try.pinned (OpenSpec.ofChange fnExactAddMarkWrong)

/-- 'laws.FnExactShortestString': WHATEVER THE INPUT: true; the input reads as it did. -/
def fnExactShortestStringSpec : ChangeSpec := { name := "fnExactShortestString", fn := fun _ => fun
  | [d] => { results := [.lit (.bool true)], args := [d] }
  | _ => none }
def fnExactShortestStringRow : OpenClaim := { program := "ytfpipbajlokheaa", sum := "cb44187f59b495ffca54164348ff0c2ad4021be7cda3ffe49d671c2b0682490a", func := "loop.example/g01026/laws.FnExactShortestString", spec := "fnExactShortestString", apart := false }
def FnExactShortestStringSaid : Prop := fnExactShortestStringRow.holds Try.pinned (OpenSpec.ofChange fnExactShortestStringSpec)

/-- ITS FALSE NEIGHBOUR: 'it returns false'. Refute it at one input. -/
def fnExactShortestStringWrong : ChangeSpec := { name := "fnExactShortestString", fn := fun _ => fun
  | [d] => { results := [.lit (.bool false)], args := [d] }
  | _ => none }
def FnExactShortestStringWrongFalsely : Prop := fnExactShortestStringRow.holds Try.pinned (OpenSpec.ofChange fnExactShortestStringWrong)

/-- 'laws.FnExactSlopeOf': WHATEVER THE INPUT: true; the input reads as it did. -/
def fnExactSlopeOfSpec : ChangeSpec := { name := "fnExactSlopeOf", fn := fun _ => fun
  | [d] => { results := [.lit (.bool true)], args := [d] }
  | _ => none }
def fnExactSlopeOfRow : OpenClaim := { program := "ytfpipbajlokheaa", sum := "cb44187f59b495ffca54164348ff0c2ad4021be7cda3ffe49d671c2b0682490a", func := "loop.example/g01026/laws.FnExactSlopeOf", spec := "fnExactSlopeOf", apart := false }
def FnExactSlopeOfSaid : Prop := fnExactSlopeOfRow.holds Try.pinned (OpenSpec.ofChange fnExactSlopeOfSpec)

/-- ITS FALSE NEIGHBOUR: 'it returns false'. Refute it at one input. -/
def fnExactSlopeOfWrong : ChangeSpec := { name := "fnExactSlopeOf", fn := fun _ => fun
  | [d] => { results := [.lit (.bool false)], args := [d] }
  | _ => none }
def FnExactSlopeOfWrongFalsely : Prop := fnExactSlopeOfRow.holds Try.pinned (OpenSpec.ofChange fnExactSlopeOfWrong)

/-- 'laws.FnExactFieldOf': WHATEVER THE INPUT: true; the input reads as it did. -/
def fnExactFieldOfSpec : ChangeSpec := { name := "fnExactFieldOf", fn := fun _ => fun
  | [d] => { results := [.lit (.bool true)], args := [d] }
  | _ => none }
def fnExactFieldOfRow : OpenClaim := { program := "ytfpipbajlokheaa", sum := "cb44187f59b495ffca54164348ff0c2ad4021be7cda3ffe49d671c2b0682490a", func := "loop.example/g01026/laws.FnExactFieldOf", spec := "fnExactFieldOf", unfollowed := true, recurses := true, apart := false }
def FnExactFieldOfSaid : Prop := fnExactFieldOfRow.holds Try.pinned (OpenSpec.ofChange fnExactFieldOfSpec)

/-- ITS FALSE NEIGHBOUR: 'it returns false'. Refute it at one input. -/
def fnExactFieldOfWrong : ChangeSpec := { name := "fnExactFieldOf", fn := fun _ => fun
  | [d] => { results := [.lit (.bool false)], args := [d] }
  | _ => none }
def FnExactFieldOfWrongFalsely : Prop := fnExactFieldOfRow.holds Try.pinned (OpenSpec.ofChange fnExactFieldOfWrong)

/-- 'laws.FnExactBinCurve': WHATEVER THE INPUT: true; the input reads as it did. -/
def fnExactBinCurveSpec : ChangeSpec := { name := "fnExactBinCurve", fn := fun _ => fun
  | [d1, d2] => { results := [.lit (.bool true)], args := [d1, d2] }
  | _ => none }
def fnExactBinCurveRow : OpenClaim := { program := "ytfpipbajlokheaa", sum := "cb44187f59b495ffca54164348ff0c2ad4021be7cda3ffe49d671c2b0682490a", func := "loop.example/g01026/laws.FnExactBinCurve", spec := "fnExactBinCurve", apart := false }
def FnExactBinCurveSaid : Prop := fnExactBinCurveRow.holds Try.pinned (OpenSpec.ofChange fnExactBinCurveSpec)

/-- ITS FALSE NEIGHBOUR: 'it returns false'. Refute it at one input. -/
def fnExactBinCurveWrong : ChangeSpec := { name := "fnExactBinCurve", fn := fun _ => fun
  | [d1, d2] => { results := [.lit (.bool false)], args := [d1, d2] }
  | _ => none }
def FnExactBinCurveWrongFalsely : Prop := fnExactBinCurveRow.holds Try.pinned (OpenSpec.ofChange fnExactBinCurveWrong)

/- THE SECOND FORM. 'bulk': how many values and letters a reading holds, each counted each time it is reached (what is shared counts as often as it is met; a slice's spare places count too). A statement '..UptoSaid' is the law's where the arguments, and the package variables that the reading takes, are together of bulk at most 1048576: NARROWER than '..Said'. Prove '..Said' where nothing that the law and all that it calls make is longer than what came in: it says more and counts as full. Else prove '..UptoSaid'. A law counts once. -/
mutual
def uptoBulk {H : Type} : DataW H → Nat
  | .lit (.string bytes) => bytes.length + 1
  | .lit _ => 1
  | .nil => 1
  | .ptr d => uptoBulk d + 1
  | .slice elems spare => uptoBulkAll elems + uptoBulkAll spare + 1
  | .agg parts => uptoBulkAll parts + 1
  | .iface _ d => uptoBulk d + 1
  | .map entries => uptoBulkEntries entries + 1
  | .held _ => 1
def uptoBulkAll {H : Type} : List (DataW H) → Nat
  | [] => 0
  | d :: r => uptoBulk d + uptoBulkAll r
def uptoBulkEntries {H : Type} : List (Lit × DataW H) → Nat
  | [] => 0
  | x :: r => uptoBulkEntry x + uptoBulkEntries r
def uptoBulkEntry {H : Type} : Lit × DataW H → Nat
  | (.string bytes, d) => bytes.length + uptoBulk d + 1
  | (_, d) => uptoBulk d + 1
 end
def uptoSmall : (H : Type) → List (DataW H) → Bool := fun _ ds => decide (uptoBulkAll ds ≤ 1048576)
def OpenSpec.upto (s : _root_.Go.ChangeSpec) : _root_.Go.OpenSpec := { _root_.Go.OpenSpec.ofChange s with cond := some uptoSmall }

/-- 'laws.FnExactAliasOf', WHERE WHAT IT READS IS OF BULK AT MOST 1048576: true; the input reads as it did. -/
def fnExactAliasOfUptoRow : OpenClaim := { program := "ytfpipbajlokheaa", sum := "cb44187f59b495ffca54164348ff0c2ad4021be7cda3ffe49d671c2b0682490a", func := "loop.example/g01026/laws.FnExactAliasOf", spec := "fnExactAliasOf", unfollowed := true, recurses := true, apart := false, narrowed := true }
def FnExactAliasOfUptoSaid : Prop := fnExactAliasOfUptoRow.holds Try.pinned (OpenSpec.upto fnExactAliasOfSpec)

/-- 'laws.FnExactNearestMark', WHERE WHAT IT READS IS OF BULK AT MOST 1048576: true; the input reads as it did. -/
def fnExactNearestMarkUptoRow : OpenClaim := { program := "ytfpipbajlokheaa", sum := "cb44187f59b495ffca54164348ff0c2ad4021be7cda3ffe49d671c2b0682490a", func := "loop.example/g01026/laws.FnExactNearestMark", spec := "fnExactNearestMark", unfollowed := true, recurses := true, apart := false, narrowed := true }
def FnExactNearestMarkUptoSaid : Prop := fnExactNearestMarkUptoRow.holds Try.pinned (OpenSpec.upto fnExactNearestMarkSpec)

/-- 'laws.FnExactAmplitudeOf', WHERE WHAT IT READS IS OF BULK AT MOST 1048576: true; the input reads as it did. -/
def fnExactAmplitudeOfUptoRow : OpenClaim := { program := "ytfpipbajlokheaa", sum := "cb44187f59b495ffca54164348ff0c2ad4021be7cda3ffe49d671c2b0682490a", func := "loop.example/g01026/laws.FnExactAmplitudeOf", spec := "fnExactAmplitudeOf", apart := false, narrowed := true }
def FnExactAmplitudeOfUptoSaid : Prop := fnExactAmplitudeOfUptoRow.holds Try.pinned (OpenSpec.upto fnExactAmplitudeOfSpec)

/-- 'laws.FnExactVertexTime', WHERE WHAT IT READS IS OF BULK AT MOST 1048576: true; the input reads as it did. -/
def fnExactVertexTimeUptoRow : OpenClaim := { program := "ytfpipbajlokheaa", sum := "cb44187f59b495ffca54164348ff0c2ad4021be7cda3ffe49d671c2b0682490a", func := "loop.example/g01026/laws.FnExactVertexTime", spec := "fnExactVertexTime", apart := false, narrowed := true }
def FnExactVertexTimeUptoSaid : Prop := fnExactVertexTimeUptoRow.holds Try.pinned (OpenSpec.upto fnExactVertexTimeSpec)

/-- 'laws.FnExactMagAt', WHERE WHAT IT READS IS OF BULK AT MOST 1048576: true; the input reads as it did. -/
def fnExactMagAtUptoRow : OpenClaim := { program := "ytfpipbajlokheaa", sum := "cb44187f59b495ffca54164348ff0c2ad4021be7cda3ffe49d671c2b0682490a", func := "loop.example/g01026/laws.FnExactMagAt", spec := "fnExactMagAt", apart := false, narrowed := true }
def FnExactMagAtUptoSaid : Prop := fnExactMagAtUptoRow.holds Try.pinned (OpenSpec.upto fnExactMagAtSpec)

/-- 'laws.FnExactVarianceOf', WHERE WHAT IT READS IS OF BULK AT MOST 1048576: true; the input reads as it did. -/
def fnExactVarianceOfUptoRow : OpenClaim := { program := "ytfpipbajlokheaa", sum := "cb44187f59b495ffca54164348ff0c2ad4021be7cda3ffe49d671c2b0682490a", func := "loop.example/g01026/laws.FnExactVarianceOf", spec := "fnExactVarianceOf", unfollowed := true, recurses := true, apart := false, narrowed := true }
def FnExactVarianceOfUptoSaid : Prop := fnExactVarianceOfUptoRow.holds Try.pinned (OpenSpec.upto fnExactVarianceOfSpec)

/-- 'laws.FnExactBinOfPoints', WHERE WHAT IT READS IS OF BULK AT MOST 1048576: true; the input reads as it did. -/
def fnExactBinOfPointsUptoRow : OpenClaim := { program := "ytfpipbajlokheaa", sum := "cb44187f59b495ffca54164348ff0c2ad4021be7cda3ffe49d671c2b0682490a", func := "loop.example/g01026/laws.FnExactBinOfPoints", spec := "fnExactBinOfPoints", apart := false, narrowed := true }
def FnExactBinOfPointsUptoSaid : Prop := fnExactBinOfPointsUptoRow.holds Try.pinned (OpenSpec.upto fnExactBinOfPointsSpec)

/-- 'laws.FnExactAddMark', WHERE WHAT IT READS IS OF BULK AT MOST 1048576: true; the input reads as it did. -/
def fnExactAddMarkUptoRow : OpenClaim := { program := "ytfpipbajlokheaa", sum := "cb44187f59b495ffca54164348ff0c2ad4021be7cda3ffe49d671c2b0682490a", func := "loop.example/g01026/laws.FnExactAddMark", spec := "fnExactAddMark", unfollowed := true, recurses := true, apart := false, narrowed := true }
def FnExactAddMarkUptoSaid : Prop := fnExactAddMarkUptoRow.holds Try.pinned (OpenSpec.upto fnExactAddMarkSpec)

/-- 'laws.FnExactShortestString', WHERE WHAT IT READS IS OF BULK AT MOST 1048576: true; the input reads as it did. -/
def fnExactShortestStringUptoRow : OpenClaim := { program := "ytfpipbajlokheaa", sum := "cb44187f59b495ffca54164348ff0c2ad4021be7cda3ffe49d671c2b0682490a", func := "loop.example/g01026/laws.FnExactShortestString", spec := "fnExactShortestString", apart := false, narrowed := true }
def FnExactShortestStringUptoSaid : Prop := fnExactShortestStringUptoRow.holds Try.pinned (OpenSpec.upto fnExactShortestStringSpec)

/-- 'laws.FnExactSlopeOf', WHERE WHAT IT READS IS OF BULK AT MOST 1048576: true; the input reads as it did. -/
def fnExactSlopeOfUptoRow : OpenClaim := { program := "ytfpipbajlokheaa", sum := "cb44187f59b495ffca54164348ff0c2ad4021be7cda3ffe49d671c2b0682490a", func := "loop.example/g01026/laws.FnExactSlopeOf", spec := "fnExactSlopeOf", apart := false, narrowed := true }
def FnExactSlopeOfUptoSaid : Prop := fnExactSlopeOfUptoRow.holds Try.pinned (OpenSpec.upto fnExactSlopeOfSpec)

/-- 'laws.FnExactFieldOf', WHERE WHAT IT READS IS OF BULK AT MOST 1048576: true; the input reads as it did. -/
def fnExactFieldOfUptoRow : OpenClaim := { program := "ytfpipbajlokheaa", sum := "cb44187f59b495ffca54164348ff0c2ad4021be7cda3ffe49d671c2b0682490a", func := "loop.example/g01026/laws.FnExactFieldOf", spec := "fnExactFieldOf", unfollowed := true, recurses := true, apart := false, narrowed := true }
def FnExactFieldOfUptoSaid : Prop := fnExactFieldOfUptoRow.holds Try.pinned (OpenSpec.upto fnExactFieldOfSpec)

/-- 'laws.FnExactBinCurve', WHERE WHAT IT READS IS OF BULK AT MOST 1048576: true; the input reads as it did. -/
def fnExactBinCurveUptoRow : OpenClaim := { program := "ytfpipbajlokheaa", sum := "cb44187f59b495ffca54164348ff0c2ad4021be7cda3ffe49d671c2b0682490a", func := "loop.example/g01026/laws.FnExactBinCurve", spec := "fnExactBinCurve", apart := false, narrowed := true }
def FnExactBinCurveUptoSaid : Prop := fnExactBinCurveUptoRow.holds Try.pinned (OpenSpec.upto fnExactBinCurveSpec)

end Rows
end Go.Proofs.Ytfpipbajlokheaa
