/-
  DERIVED. GIVEN WITH THE SEED: THE CARDS: each row of YtjanlhdhelmkcaaDoorRows.lean that lists a variable, with what it lists TIED to the program's text (the seventh form; the later family's looks); each row that meets fmt, with fmt's text TOLD by the authors' own Lean function (tested against real Go, not proved from fmt's source: count such statements apart). THE CARD IS WHAT COUNTS. Prove the row's statement (the work); the ties are given (YtjanlhdhelmkcaaDoorTie.lean); close each card by the builder's one call (the guide's Derived/Test/ToyasCard.lean, 'card_holds'). Laid BY PROGRAM, IN A SANDBOX (cutbox-door.mjs). By AI agents, Wed Nov 11 2026. No macro, syntax, notation, axiom, sorry.
-/
import Derived.Test.YtjanlhdhelmkcaaDoorRows
import GoSem.ClaimSeven
namespace Go.Proofs.YtjanlhdhelmkcaaDoor
namespace Rows

/-- THE TIED CARD OF 'laws.FnExactCommandName'. -/
def fnExactCommandNameCard : Claim7 := { stood := { row := fnExactCommandNameRow, standIns := [], harness := (true, "893ed004d4f1f6742d7a676ff3bed5f68e1c713b806a27d9d8b649bed1774b51"), looks := false }, kinds := [], alts := [], laidByText := true, laidKinds := [.data], laidTests := true, laidLooks := .later }
def FnExactCommandNameCardSaid : Prop := Claim7.holds Tryd.pinned (.plain (OpenSpec.ofChange fnExactCommandNameSpec)) fnExactCommandNameCard

/-- THE SECOND FORM's CARD OF 'laws.FnExactCommandName'. -/
def fnExactCommandNameUptoCard : Claim7 := { stood := { row := fnExactCommandNameUptoRow, standIns := [], harness := (true, "893ed004d4f1f6742d7a676ff3bed5f68e1c713b806a27d9d8b649bed1774b51"), looks := false }, kinds := [], alts := [], laidByText := true, laidKinds := [.data], laidTests := true, laidLooks := .later }
def FnExactCommandNameUptoCardSaid : Prop := Claim7.holds Tryd.pinned (.plain (OpenSpec.upto fnExactCommandNameSpec)) fnExactCommandNameUptoCard
end Rows
end Go.Proofs.YtjanlhdhelmkcaaDoor
