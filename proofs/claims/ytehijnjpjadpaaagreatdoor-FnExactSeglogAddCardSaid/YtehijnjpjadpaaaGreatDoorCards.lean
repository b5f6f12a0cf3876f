/-
  DERIVED. GIVEN WITH THE SEED: THE CARDS: each row of YtehijnjpjadpaaaGreatDoorRows.lean that lists a variable, with what it lists TIED to the program's text (the seventh form; the later family's looks); each row that meets fmt, with fmt's text TOLD by the authors' own Lean function (tested against real Go, not proved from fmt's source: count such statements apart). THE CARD IS WHAT COUNTS. Prove the row's statement (the work); the ties are given (YtehijnjpjadpaaaGreatDoorTie.lean); close each card by the builder's one call (the guide's Derived/Test/ToyasCard.lean, 'card_holds'). Laid BY PROGRAM, IN A SANDBOX (cutbox-door.mjs). By AI agents, Wed Nov 11 2026. No macro, syntax, notation, axiom, sorry.
-/
import Derived.Test.YtehijnjpjadpaaaGreatDoorRows
import GoSem.ClaimSeven
namespace Go.Proofs.YtehijnjpjadpaaaGreatDoor
namespace Rows

/-- THE TIED CARD OF 'laws.FnExactSeglogAdd'. -/
def fnExactSeglogAddCard : Claim7 := { stood := { row := fnExactSeglogAddRow, standIns := [], harness := (true, "ccb76016136dca3c364dd7fe47bcf57ffd67876928ee377cc9e353a3c78b7ced"), looks := false }, kinds := [], alts := [], laidByText := true, laidKinds := [.data, .data, .data], laidTests := true, laidLooks := .later }
def FnExactSeglogAddCardSaid : Prop := Claim7.holds Tryz.pinned (.plain (OpenSpec.ofChange fnExactSeglogAddSpec)) fnExactSeglogAddCard

/-- THE SECOND FORM's CARD OF 'laws.FnExactSeglogAdd'. -/
def fnExactSeglogAddUptoCard : Claim7 := { stood := { row := fnExactSeglogAddUptoRow, standIns := [], harness := (true, "ccb76016136dca3c364dd7fe47bcf57ffd67876928ee377cc9e353a3c78b7ced"), looks := false }, kinds := [], alts := [], laidByText := true, laidKinds := [.data, .data, .data], laidTests := true, laidLooks := .later }
def FnExactSeglogAddUptoCardSaid : Prop := Claim7.holds Tryz.pinned (.plain (OpenSpec.upto fnExactSeglogAddSpec)) fnExactSeglogAddUptoCard
end Rows
end Go.Proofs.YtehijnjpjadpaaaGreatDoor
