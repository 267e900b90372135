/-
  DERIVED. GIVEN WITH THE SEED: THE CARDS: each row of YthojfmlnnclghaaDoorRows.lean that lists a variable, with what it lists TIED to the program's text (the seventh form; the later family's looks); each row that meets fmt, with fmt's text TOLD by the authors' own Lean function (tested against real Go, not proved from fmt's source: count such statements apart). THE CARD IS WHAT COUNTS. Prove the row's statement (the work); the ties are given (YthojfmlnnclghaaDoorTie.lean); close each card by the builder's one call (the guide's Derived/Test/ToyasCard.lean, 'card_holds'). Laid BY PROGRAM, IN A SANDBOX (cutbox-door.mjs). By AI agents, Wed Nov 11 2026. No macro, syntax, notation, axiom, sorry.
-/
import Derived.Test.YthojfmlnnclghaaDoorRows
import GoSem.ClaimSeven
namespace Go.Proofs.YthojfmlnnclghaaDoor
namespace Rows

/-- THE TIED CARD OF 'laws.FnExactEstimatesText'. -/
def fnExactEstimatesTextCard : Claim7 := { stood := { row := fnExactEstimatesTextRow, standIns := [], harness := (true, "aea0e9c2feb79a12f86ade05937ca760f131f54947ed32474df90bf0cb2ffb42"), looks := false }, kinds := [], alts := [], laidByText := true, laidKinds := [.data, .data, .data], laidTests := true, laidLooks := .later }
def FnExactEstimatesTextCardSaid : Prop := Claim7.holds Tryd.pinned (.plain (OpenSpec.ofChange fnExactEstimatesTextSpec)) fnExactEstimatesTextCard

/-- THE SECOND FORM's CARD OF 'laws.FnExactEstimatesText'. -/
def fnExactEstimatesTextUptoCard : Claim7 := { stood := { row := fnExactEstimatesTextUptoRow, standIns := [], harness := (true, "aea0e9c2feb79a12f86ade05937ca760f131f54947ed32474df90bf0cb2ffb42"), looks := false }, kinds := [], alts := [], laidByText := true, laidKinds := [.data, .data, .data], laidTests := true, laidLooks := .later }
def FnExactEstimatesTextUptoCardSaid : Prop := Claim7.holds Tryd.pinned (.plain (OpenSpec.upto fnExactEstimatesTextSpec)) fnExactEstimatesTextUptoCard
end Rows
end Go.Proofs.YthojfmlnnclghaaDoor
