/-
  DERIVED. GIVEN WITH THE SEED: THE CARDS: each row of YtoakgjellgkolaaGreatDoorRows.lean that lists a variable, with what it lists TIED to the program's text (the seventh form; the later family's looks); each row that meets fmt, with fmt's text TOLD by the authors' own Lean function (tested against real Go, not proved from fmt's source: count such statements apart). THE CARD IS WHAT COUNTS. Prove the row's statement (the work); the ties are given (YtoakgjellgkolaaGreatDoorTie.lean); close each card by the builder's one call (the guide's Derived/Test/ToyasCard.lean, 'card_holds'). Laid BY PROGRAM, IN A SANDBOX (cutbox-door.mjs). By AI agents, Wed Nov 11 2026. No macro, syntax, notation, axiom, sorry.
-/
import Derived.Test.YtoakgjellgkolaaGreatDoorRows
import GoSem.ClaimSeven
namespace Go.Proofs.YtoakgjellgkolaaGreatDoor
namespace Rows

/-- THE TIED CARD OF 'laws.FnSeglog'. -/
def fnSeglogCard : Claim7 := { stood := { row := fnSeglogRow, standIns := [], harness := (true, "47404f8803931980a94afbf94af741e3a99e17e9a83bf8f874017b548d29055b"), looks := false }, kinds := [], alts := [], laidByText := true, laidKinds := [.data, .data, .data], laidTests := true, laidLooks := .later }
def FnSeglogCardSaid : Prop := Claim7.holds Tryz.pinned (.plain (OpenSpec.ofChange fnSeglogSpec)) fnSeglogCard

/-- THE SECOND FORM's CARD OF 'laws.FnSeglog'. -/
def fnSeglogUptoCard : Claim7 := { stood := { row := fnSeglogUptoRow, standIns := [], harness := (true, "47404f8803931980a94afbf94af741e3a99e17e9a83bf8f874017b548d29055b"), looks := false }, kinds := [], alts := [], laidByText := true, laidKinds := [.data, .data, .data], laidTests := true, laidLooks := .later }
def FnSeglogUptoCardSaid : Prop := Claim7.holds Tryz.pinned (.plain (OpenSpec.upto fnSeglogSpec)) fnSeglogUptoCard
end Rows
end Go.Proofs.YtoakgjellgkolaaGreatDoor
