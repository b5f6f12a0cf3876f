/-
  DERIVED. GIVEN WITH THE SEED: THE CARDS: each row of YtcifhkikghldnaaDoorRows.lean that lists a variable, with what it lists TIED to the program's text (the seventh form; the later family's looks); each row that meets fmt, with fmt's text TOLD by the authors' own Lean function (tested against real Go, not proved from fmt's source: count such statements apart). THE CARD IS WHAT COUNTS. Prove the row's statement (the work); the ties are given (YtcifhkikghldnaaDoorTie.lean); close each card by the builder's one call (the guide's Derived/Test/ToyasCard.lean, 'card_holds'). Laid BY PROGRAM, IN A SANDBOX (cutbox-door.mjs). By AI agents, Wed Nov 11 2026. No macro, syntax, notation, axiom, sorry.
-/
import Derived.Test.YtcifhkikghldnaaDoorRows
import GoSem.ClaimSeven
namespace Go.Proofs.YtcifhkikghldnaaDoor
namespace Rows

/-- THE TIED CARD OF 'laws.FnExactDigest'. -/
def fnExactDigestCard : Claim7 := { stood := { row := fnExactDigestRow, standIns := [], harness := (true, "d0856223cd61337d84bcc569194375575fac77a36cfb7c9f05828a63c3015160"), looks := false }, kinds := [], alts := [], laidByText := true, laidKinds := [.data, .data], laidTests := true, laidLooks := .later }
def FnExactDigestCardSaid : Prop := Claim7.holds Tryd.pinned (.plain (OpenSpec.ofChange fnExactDigestSpec)) fnExactDigestCard

/-- THE TIED CARD OF 'laws.FnExactMac'. -/
def fnExactMacCard : Claim7 := { stood := { row := fnExactMacRow, standIns := [], harness := (true, "d0856223cd61337d84bcc569194375575fac77a36cfb7c9f05828a63c3015160"), looks := false }, kinds := [], alts := [], laidByText := true, laidKinds := [.data, .data], laidTests := true, laidLooks := .later }
def FnExactMacCardSaid : Prop := Claim7.holds Tryd.pinned (.plain (OpenSpec.ofChange fnExactMacSpec)) fnExactMacCard

/-- THE TIED CARD OF 'laws.FnExactStretch'. -/
def fnExactStretchCard : Claim7 := { stood := { row := fnExactStretchRow, standIns := [], harness := (true, "d0856223cd61337d84bcc569194375575fac77a36cfb7c9f05828a63c3015160"), looks := false }, kinds := [], alts := [], laidByText := true, laidKinds := [.data, .data], laidTests := true, laidLooks := .later }
def FnExactStretchCardSaid : Prop := Claim7.holds Tryd.pinned (.plain (OpenSpec.ofChange fnExactStretchSpec)) fnExactStretchCard

/-- THE TIED CARD OF 'laws.FnMac'. -/
def fnMacCard : Claim7 := { stood := { row := fnMacRow, standIns := [], harness := (true, "d0856223cd61337d84bcc569194375575fac77a36cfb7c9f05828a63c3015160"), looks := false }, kinds := [], alts := [], laidByText := true, laidKinds := [.data, .data], laidTests := true, laidLooks := .later }
def FnMacCardSaid : Prop := Claim7.holds Tryd.pinned (.plain (OpenSpec.ofChange fnMacSpec)) fnMacCard

/-- THE SECOND FORM's CARD OF 'laws.FnExactDigest'. -/
def fnExactDigestUptoCard : Claim7 := { stood := { row := fnExactDigestUptoRow, standIns := [], harness := (true, "d0856223cd61337d84bcc569194375575fac77a36cfb7c9f05828a63c3015160"), looks := false }, kinds := [], alts := [], laidByText := true, laidKinds := [.data, .data], laidTests := true, laidLooks := .later }
def FnExactDigestUptoCardSaid : Prop := Claim7.holds Tryd.pinned (.plain (OpenSpec.upto fnExactDigestSpec)) fnExactDigestUptoCard

/-- THE SECOND FORM's CARD OF 'laws.FnExactMac'. -/
def fnExactMacUptoCard : Claim7 := { stood := { row := fnExactMacUptoRow, standIns := [], harness := (true, "d0856223cd61337d84bcc569194375575fac77a36cfb7c9f05828a63c3015160"), looks := false }, kinds := [], alts := [], laidByText := true, laidKinds := [.data, .data], laidTests := true, laidLooks := .later }
def FnExactMacUptoCardSaid : Prop := Claim7.holds Tryd.pinned (.plain (OpenSpec.upto fnExactMacSpec)) fnExactMacUptoCard

/-- THE SECOND FORM's CARD OF 'laws.FnExactStretch'. -/
def fnExactStretchUptoCard : Claim7 := { stood := { row := fnExactStretchUptoRow, standIns := [], harness := (true, "d0856223cd61337d84bcc569194375575fac77a36cfb7c9f05828a63c3015160"), looks := false }, kinds := [], alts := [], laidByText := true, laidKinds := [.data, .data], laidTests := true, laidLooks := .later }
def FnExactStretchUptoCardSaid : Prop := Claim7.holds Tryd.pinned (.plain (OpenSpec.upto fnExactStretchSpec)) fnExactStretchUptoCard

/-- THE SECOND FORM's CARD OF 'laws.FnMac'. -/
def fnMacUptoCard : Claim7 := { stood := { row := fnMacUptoRow, standIns := [], harness := (true, "d0856223cd61337d84bcc569194375575fac77a36cfb7c9f05828a63c3015160"), looks := false }, kinds := [], alts := [], laidByText := true, laidKinds := [.data, .data], laidTests := true, laidLooks := .later }
def FnMacUptoCardSaid : Prop := Claim7.holds Tryd.pinned (.plain (OpenSpec.upto fnMacSpec)) fnMacUptoCard
end Rows
end Go.Proofs.YtcifhkikghldnaaDoor
