/-
  DERIVED. GIVEN WITH THE SEED: THE CARDS: each row of YtpkkeoapndpikaaDoorRows.lean that lists a variable, with what it lists TIED to the program's text (the seventh form; the later family's looks); each row that meets fmt, with fmt's text TOLD by the authors' own Lean function (tested against real Go, not proved from fmt's source: count such statements apart). THE CARD IS WHAT COUNTS. Prove the row's statement (the work); the ties are given (YtpkkeoapndpikaaDoorTie.lean); close each card by the builder's one call (the guide's Derived/Test/ToyasCard.lean, 'card_holds'). Laid BY PROGRAM, IN A SANDBOX (cutbox-door.mjs). By AI agents, Wed Nov 11 2026. No macro, syntax, notation, axiom, sorry.
-/
import Derived.Test.YtpkkeoapndpikaaDoorRows
import GoSem.ClaimSeven
namespace Go.Proofs.YtpkkeoapndpikaaDoor
namespace Rows

/-- THE TIED CARD OF 'laws.FnExactEphemerisText'. -/
def fnExactEphemerisTextCard : Claim7 := { stood := { row := fnExactEphemerisTextRow, standIns := [], harness := (true, "f8ff835876540f9e43b1d247451a0fbe295dfc959e360dc51a25528767b1641e"), looks := false }, kinds := [], alts := [], laidByText := true, laidKinds := [.data, .data, .data], laidTests := true, laidLooks := .later }
def FnExactEphemerisTextCardSaid : Prop := Claim7.holds Tryd.pinned (.plain (OpenSpec.ofChange fnExactEphemerisTextSpec)) fnExactEphemerisTextCard

/-- THE TIED CARD OF 'laws.FnExactLabelOf'. -/
def fnExactLabelOfCard : Claim7 := { stood := { row := fnExactLabelOfRow, standIns := [], harness := (true, "f8ff835876540f9e43b1d247451a0fbe295dfc959e360dc51a25528767b1641e"), looks := false }, kinds := [], alts := [], laidByText := true, laidKinds := [.data, .data, .data], laidTests := true, laidLooks := .later }
def FnExactLabelOfCardSaid : Prop := Claim7.holds Tryd.pinned (.plain (OpenSpec.ofChange fnExactLabelOfSpec)) fnExactLabelOfCard

/-- THE TIED CARD OF 'laws.FnExactMarkText'. -/
def fnExactMarkTextCard : Claim7 := { stood := { row := fnExactMarkTextRow, standIns := [], harness := (true, "f8ff835876540f9e43b1d247451a0fbe295dfc959e360dc51a25528767b1641e"), looks := false }, kinds := [], alts := [], laidByText := true, laidKinds := [.data, .data, .data], laidTests := true, laidLooks := .later }
def FnExactMarkTextCardSaid : Prop := Claim7.holds Tryd.pinned (.plain (OpenSpec.ofChange fnExactMarkTextSpec)) fnExactMarkTextCard

/-- THE TIED CARD OF 'laws.FnExactPhaseText'. -/
def fnExactPhaseTextCard : Claim7 := { stood := { row := fnExactPhaseTextRow, standIns := [], harness := (true, "f8ff835876540f9e43b1d247451a0fbe295dfc959e360dc51a25528767b1641e"), looks := false }, kinds := [], alts := [], laidByText := true, laidKinds := [.data, .data, .data], laidTests := true, laidLooks := .later }
def FnExactPhaseTextCardSaid : Prop := Claim7.holds Tryd.pinned (.plain (OpenSpec.ofChange fnExactPhaseTextSpec)) fnExactPhaseTextCard

/-- THE TIED CARD OF 'laws.FnExactLabelBox'. -/
def fnExactLabelBoxCard : Claim7 := { stood := { row := fnExactLabelBoxRow, standIns := [], harness := (true, "f8ff835876540f9e43b1d247451a0fbe295dfc959e360dc51a25528767b1641e"), looks := false }, kinds := [], alts := [], laidByText := true, laidKinds := [.data, .data, .data], laidTests := true, laidLooks := .later }
def FnExactLabelBoxCardSaid : Prop := Claim7.holds Tryd.pinned (.plain (OpenSpec.ofChange fnExactLabelBoxSpec)) fnExactLabelBoxCard

/-- THE TIED CARD OF 'laws.FnExactPutLabels'. -/
def fnExactPutLabelsCard : Claim7 := { stood := { row := fnExactPutLabelsRow, standIns := [], harness := (true, "f8ff835876540f9e43b1d247451a0fbe295dfc959e360dc51a25528767b1641e"), looks := false }, kinds := [], alts := [], laidByText := true, laidKinds := [.data, .data, .data], laidTests := true, laidLooks := .later }
def FnExactPutLabelsCardSaid : Prop := Claim7.holds Tryd.pinned (.plain (OpenSpec.ofChange fnExactPutLabelsSpec)) fnExactPutLabelsCard

/-- THE TIED CARD OF 'laws.FnExactLabelClashes'. -/
def fnExactLabelClashesCard : Claim7 := { stood := { row := fnExactLabelClashesRow, standIns := [], harness := (true, "f8ff835876540f9e43b1d247451a0fbe295dfc959e360dc51a25528767b1641e"), looks := false }, kinds := [], alts := [], laidByText := true, laidKinds := [.data, .data, .data], laidTests := true, laidLooks := .later }
def FnExactLabelClashesCardSaid : Prop := Claim7.holds Tryd.pinned (.plain (OpenSpec.ofChange fnExactLabelClashesSpec)) fnExactLabelClashesCard

/-- THE SECOND FORM's CARD OF 'laws.FnExactEphemerisText'. -/
def fnExactEphemerisTextUptoCard : Claim7 := { stood := { row := fnExactEphemerisTextUptoRow, standIns := [], harness := (true, "f8ff835876540f9e43b1d247451a0fbe295dfc959e360dc51a25528767b1641e"), looks := false }, kinds := [], alts := [], laidByText := true, laidKinds := [.data, .data, .data], laidTests := true, laidLooks := .later }
def FnExactEphemerisTextUptoCardSaid : Prop := Claim7.holds Tryd.pinned (.plain (OpenSpec.upto fnExactEphemerisTextSpec)) fnExactEphemerisTextUptoCard

/-- THE SECOND FORM's CARD OF 'laws.FnExactLabelOf'. -/
def fnExactLabelOfUptoCard : Claim7 := { stood := { row := fnExactLabelOfUptoRow, standIns := [], harness := (true, "f8ff835876540f9e43b1d247451a0fbe295dfc959e360dc51a25528767b1641e"), looks := false }, kinds := [], alts := [], laidByText := true, laidKinds := [.data, .data, .data], laidTests := true, laidLooks := .later }
def FnExactLabelOfUptoCardSaid : Prop := Claim7.holds Tryd.pinned (.plain (OpenSpec.upto fnExactLabelOfSpec)) fnExactLabelOfUptoCard

/-- THE SECOND FORM's CARD OF 'laws.FnExactMarkText'. -/
def fnExactMarkTextUptoCard : Claim7 := { stood := { row := fnExactMarkTextUptoRow, standIns := [], harness := (true, "f8ff835876540f9e43b1d247451a0fbe295dfc959e360dc51a25528767b1641e"), looks := false }, kinds := [], alts := [], laidByText := true, laidKinds := [.data, .data, .data], laidTests := true, laidLooks := .later }
def FnExactMarkTextUptoCardSaid : Prop := Claim7.holds Tryd.pinned (.plain (OpenSpec.upto fnExactMarkTextSpec)) fnExactMarkTextUptoCard

/-- THE SECOND FORM's CARD OF 'laws.FnExactPhaseText'. -/
def fnExactPhaseTextUptoCard : Claim7 := { stood := { row := fnExactPhaseTextUptoRow, standIns := [], harness := (true, "f8ff835876540f9e43b1d247451a0fbe295dfc959e360dc51a25528767b1641e"), looks := false }, kinds := [], alts := [], laidByText := true, laidKinds := [.data, .data, .data], laidTests := true, laidLooks := .later }
def FnExactPhaseTextUptoCardSaid : Prop := Claim7.holds Tryd.pinned (.plain (OpenSpec.upto fnExactPhaseTextSpec)) fnExactPhaseTextUptoCard

/-- THE SECOND FORM's CARD OF 'laws.FnExactLabelBox'. -/
def fnExactLabelBoxUptoCard : Claim7 := { stood := { row := fnExactLabelBoxUptoRow, standIns := [], harness := (true, "f8ff835876540f9e43b1d247451a0fbe295dfc959e360dc51a25528767b1641e"), looks := false }, kinds := [], alts := [], laidByText := true, laidKinds := [.data, .data, .data], laidTests := true, laidLooks := .later }
def FnExactLabelBoxUptoCardSaid : Prop := Claim7.holds Tryd.pinned (.plain (OpenSpec.upto fnExactLabelBoxSpec)) fnExactLabelBoxUptoCard

/-- THE SECOND FORM's CARD OF 'laws.FnExactPutLabels'. -/
def fnExactPutLabelsUptoCard : Claim7 := { stood := { row := fnExactPutLabelsUptoRow, standIns := [], harness := (true, "f8ff835876540f9e43b1d247451a0fbe295dfc959e360dc51a25528767b1641e"), looks := false }, kinds := [], alts := [], laidByText := true, laidKinds := [.data, .data, .data], laidTests := true, laidLooks := .later }
def FnExactPutLabelsUptoCardSaid : Prop := Claim7.holds Tryd.pinned (.plain (OpenSpec.upto fnExactPutLabelsSpec)) fnExactPutLabelsUptoCard

/-- THE SECOND FORM's CARD OF 'laws.FnExactLabelClashes'. -/
def fnExactLabelClashesUptoCard : Claim7 := { stood := { row := fnExactLabelClashesUptoRow, standIns := [], harness := (true, "f8ff835876540f9e43b1d247451a0fbe295dfc959e360dc51a25528767b1641e"), looks := false }, kinds := [], alts := [], laidByText := true, laidKinds := [.data, .data, .data], laidTests := true, laidLooks := .later }
def FnExactLabelClashesUptoCardSaid : Prop := Claim7.holds Tryd.pinned (.plain (OpenSpec.upto fnExactLabelClashesSpec)) fnExactLabelClashesUptoCard
end Rows
end Go.Proofs.YtpkkeoapndpikaaDoor
