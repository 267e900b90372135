/-
  DERIVED. GIVEN WITH THE SEED: THE CARDS: each row of YthojfmlnnclghaaGreatDoorRows.lean that lists a variable, with what it lists TIED to the program's text (the seventh form; the later family's looks); each row that meets fmt, with fmt's text TOLD by the authors' own Lean function (tested against real Go, not proved from fmt's source: count such statements apart). THE CARD IS WHAT COUNTS. Prove the row's statement (the work); the ties are given (YthojfmlnnclghaaGreatDoorTie.lean); close each card by the builder's one call (the guide's Derived/Test/ToyasCard.lean, 'card_holds'). Laid BY PROGRAM, IN A SANDBOX (cutbox-door.mjs). By AI agents, Wed Nov 11 2026. No macro, syntax, notation, axiom, sorry.
-/
import Derived.Test.YthojfmlnnclghaaGreatDoorRows
import GoSem.ClaimSeven
namespace Go.Proofs.YthojfmlnnclghaaGreatDoor
namespace Rows

/-- THE TIED CARD OF 'laws.FnExactReadEstimates'. -/
def fnExactReadEstimatesCard : Claim7 := { stood := { row := fnExactReadEstimatesRow, standIns := [], harness := (true, "6123be37e324fdf505067217ec1a75d52720d77bab349f6f0173388373821202"), looks := true }, kinds := [], alts := [], laidByText := true, laidKinds := [.data, .data, .data, .data, .sentinel, .sentinel, .pinned], laidTests := true, laidLooks := .later }
def FnExactReadEstimatesCardSaid : Prop := Claim7.holds Tryz.pinned (.plain (OpenSpec.ofChange fnExactReadEstimatesSpec)) fnExactReadEstimatesCard

/-- THE SECOND FORM's CARD OF 'laws.FnExactReadEstimates'. -/
def fnExactReadEstimatesUptoCard : Claim7 := { stood := { row := fnExactReadEstimatesUptoRow, standIns := [], harness := (true, "6123be37e324fdf505067217ec1a75d52720d77bab349f6f0173388373821202"), looks := true }, kinds := [], alts := [], laidByText := true, laidKinds := [.data, .data, .data, .data, .sentinel, .sentinel, .pinned], laidTests := true, laidLooks := .later }
def FnExactReadEstimatesUptoCardSaid : Prop := Claim7.holds Tryz.pinned (.plain (OpenSpec.upto fnExactReadEstimatesSpec)) fnExactReadEstimatesUptoCard
end Rows
end Go.Proofs.YthojfmlnnclghaaGreatDoor
