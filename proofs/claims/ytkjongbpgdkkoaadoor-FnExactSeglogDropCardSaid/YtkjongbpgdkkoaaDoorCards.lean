/-
  DERIVED. GIVEN WITH THE SEED: THE CARDS: each row of YtkjongbpgdkkoaaDoorRows.lean that lists a variable, with what it lists TIED to the program's text (the seventh form; the later family's looks); each row that meets fmt, with fmt's text TOLD by the authors' own Lean function (tested against real Go, not proved from fmt's source: count such statements apart). THE CARD IS WHAT COUNTS. Prove the row's statement (the work); the ties are given (YtkjongbpgdkkoaaDoorTie.lean); close each card by the builder's one call (the guide's Derived/Test/ToyasCard.lean, 'card_holds'). Laid BY PROGRAM, IN A SANDBOX (cutbox-door.mjs). By AI agents, Wed Nov 11 2026. No macro, syntax, notation, axiom, sorry.
-/
import Derived.Test.YtkjongbpgdkkoaaDoorRows
import GoSem.ClaimSeven
namespace Go.Proofs.YtkjongbpgdkkoaaDoor
namespace Rows

/-- THE TIED CARD OF 'laws.FnExactSegName'. -/
def fnExactSegNameCard : Claim7 := { stood := { row := fnExactSegNameRow, standIns := [], harness := (true, "aea19cc44fcb1b74578ecfa9c1e3964666d9719e933a35ea36f8ff18b7176a61"), looks := false }, kinds := [], alts := [], laidByText := true, laidKinds := [.data, .data, .data], laidTests := true, laidLooks := .later }
def FnExactSegNameCardSaid : Prop := Claim7.holds Tryd.pinned (.plain (OpenSpec.ofChange fnExactSegNameSpec)) fnExactSegNameCard

/-- THE TIED CARD OF 'laws.FnExactSeglogNew'. -/
def fnExactSeglogNewCard : Claim7 := { stood := { row := fnExactSeglogNewRow, standIns := [], harness := (true, "aea19cc44fcb1b74578ecfa9c1e3964666d9719e933a35ea36f8ff18b7176a61"), looks := false }, kinds := [], alts := [], laidByText := true, laidKinds := [.data, .data, .data], laidTests := true, laidLooks := .later }
def FnExactSeglogNewCardSaid : Prop := Claim7.holds Tryd.pinned (.plain (OpenSpec.ofChange fnExactSeglogNewSpec)) fnExactSeglogNewCard

/-- THE TIED CARD OF 'laws.FnExactSeglogRight'. -/
def fnExactSeglogRightCard : Claim7 := { stood := { row := fnExactSeglogRightRow, standIns := [], harness := (true, "aea19cc44fcb1b74578ecfa9c1e3964666d9719e933a35ea36f8ff18b7176a61"), looks := false }, kinds := [], alts := [], laidByText := true, laidKinds := [.data, .data, .data], laidTests := true, laidLooks := .later }
def FnExactSeglogRightCardSaid : Prop := Claim7.holds Tryd.pinned (.plain (OpenSpec.ofChange fnExactSeglogRightSpec)) fnExactSeglogRightCard

/-- THE TIED CARD OF 'laws.FnExactSeglogAt'. -/
def fnExactSeglogAtCard : Claim7 := { stood := { row := fnExactSeglogAtRow, standIns := [], harness := (true, "aea19cc44fcb1b74578ecfa9c1e3964666d9719e933a35ea36f8ff18b7176a61"), looks := false }, kinds := [], alts := [], laidByText := true, laidKinds := [.data, .data, .data], laidTests := true, laidLooks := .later }
def FnExactSeglogAtCardSaid : Prop := Claim7.holds Tryd.pinned (.plain (OpenSpec.ofChange fnExactSeglogAtSpec)) fnExactSeglogAtCard

/-- THE TIED CARD OF 'laws.FnExactSeglogAll'. -/
def fnExactSeglogAllCard : Claim7 := { stood := { row := fnExactSeglogAllRow, standIns := [], harness := (true, "aea19cc44fcb1b74578ecfa9c1e3964666d9719e933a35ea36f8ff18b7176a61"), looks := false }, kinds := [], alts := [], laidByText := true, laidKinds := [.data, .data, .data], laidTests := true, laidLooks := .later }
def FnExactSeglogAllCardSaid : Prop := Claim7.holds Tryd.pinned (.plain (OpenSpec.ofChange fnExactSeglogAllSpec)) fnExactSeglogAllCard

/-- THE TIED CARD OF 'laws.FnExactSeglogSync'. -/
def fnExactSeglogSyncCard : Claim7 := { stood := { row := fnExactSeglogSyncRow, standIns := [], harness := (true, "aea19cc44fcb1b74578ecfa9c1e3964666d9719e933a35ea36f8ff18b7176a61"), looks := false }, kinds := [], alts := [], laidByText := true, laidKinds := [.data, .data, .data], laidTests := true, laidLooks := .later }
def FnExactSeglogSyncCardSaid : Prop := Claim7.holds Tryd.pinned (.plain (OpenSpec.ofChange fnExactSeglogSyncSpec)) fnExactSeglogSyncCard

/-- THE TIED CARD OF 'laws.FnExactSeglogDrop'. -/
def fnExactSeglogDropCard : Claim7 := { stood := { row := fnExactSeglogDropRow, standIns := [], harness := (true, "aea19cc44fcb1b74578ecfa9c1e3964666d9719e933a35ea36f8ff18b7176a61"), looks := false }, kinds := [], alts := [], laidByText := true, laidKinds := [.data, .data, .data], laidTests := true, laidLooks := .later }
def FnExactSeglogDropCardSaid : Prop := Claim7.holds Tryd.pinned (.plain (OpenSpec.ofChange fnExactSeglogDropSpec)) fnExactSeglogDropCard

/-- THE SECOND FORM's CARD OF 'laws.FnExactSegName'. -/
def fnExactSegNameUptoCard : Claim7 := { stood := { row := fnExactSegNameUptoRow, standIns := [], harness := (true, "aea19cc44fcb1b74578ecfa9c1e3964666d9719e933a35ea36f8ff18b7176a61"), looks := false }, kinds := [], alts := [], laidByText := true, laidKinds := [.data, .data, .data], laidTests := true, laidLooks := .later }
def FnExactSegNameUptoCardSaid : Prop := Claim7.holds Tryd.pinned (.plain (OpenSpec.upto fnExactSegNameSpec)) fnExactSegNameUptoCard

/-- THE SECOND FORM's CARD OF 'laws.FnExactSeglogNew'. -/
def fnExactSeglogNewUptoCard : Claim7 := { stood := { row := fnExactSeglogNewUptoRow, standIns := [], harness := (true, "aea19cc44fcb1b74578ecfa9c1e3964666d9719e933a35ea36f8ff18b7176a61"), looks := false }, kinds := [], alts := [], laidByText := true, laidKinds := [.data, .data, .data], laidTests := true, laidLooks := .later }
def FnExactSeglogNewUptoCardSaid : Prop := Claim7.holds Tryd.pinned (.plain (OpenSpec.upto fnExactSeglogNewSpec)) fnExactSeglogNewUptoCard

/-- THE SECOND FORM's CARD OF 'laws.FnExactSeglogRight'. -/
def fnExactSeglogRightUptoCard : Claim7 := { stood := { row := fnExactSeglogRightUptoRow, standIns := [], harness := (true, "aea19cc44fcb1b74578ecfa9c1e3964666d9719e933a35ea36f8ff18b7176a61"), looks := false }, kinds := [], alts := [], laidByText := true, laidKinds := [.data, .data, .data], laidTests := true, laidLooks := .later }
def FnExactSeglogRightUptoCardSaid : Prop := Claim7.holds Tryd.pinned (.plain (OpenSpec.upto fnExactSeglogRightSpec)) fnExactSeglogRightUptoCard

/-- THE SECOND FORM's CARD OF 'laws.FnExactSeglogAt'. -/
def fnExactSeglogAtUptoCard : Claim7 := { stood := { row := fnExactSeglogAtUptoRow, standIns := [], harness := (true, "aea19cc44fcb1b74578ecfa9c1e3964666d9719e933a35ea36f8ff18b7176a61"), looks := false }, kinds := [], alts := [], laidByText := true, laidKinds := [.data, .data, .data], laidTests := true, laidLooks := .later }
def FnExactSeglogAtUptoCardSaid : Prop := Claim7.holds Tryd.pinned (.plain (OpenSpec.upto fnExactSeglogAtSpec)) fnExactSeglogAtUptoCard

/-- THE SECOND FORM's CARD OF 'laws.FnExactSeglogAll'. -/
def fnExactSeglogAllUptoCard : Claim7 := { stood := { row := fnExactSeglogAllUptoRow, standIns := [], harness := (true, "aea19cc44fcb1b74578ecfa9c1e3964666d9719e933a35ea36f8ff18b7176a61"), looks := false }, kinds := [], alts := [], laidByText := true, laidKinds := [.data, .data, .data], laidTests := true, laidLooks := .later }
def FnExactSeglogAllUptoCardSaid : Prop := Claim7.holds Tryd.pinned (.plain (OpenSpec.upto fnExactSeglogAllSpec)) fnExactSeglogAllUptoCard

/-- THE SECOND FORM's CARD OF 'laws.FnExactSeglogSync'. -/
def fnExactSeglogSyncUptoCard : Claim7 := { stood := { row := fnExactSeglogSyncUptoRow, standIns := [], harness := (true, "aea19cc44fcb1b74578ecfa9c1e3964666d9719e933a35ea36f8ff18b7176a61"), looks := false }, kinds := [], alts := [], laidByText := true, laidKinds := [.data, .data, .data], laidTests := true, laidLooks := .later }
def FnExactSeglogSyncUptoCardSaid : Prop := Claim7.holds Tryd.pinned (.plain (OpenSpec.upto fnExactSeglogSyncSpec)) fnExactSeglogSyncUptoCard

/-- THE SECOND FORM's CARD OF 'laws.FnExactSeglogDrop'. -/
def fnExactSeglogDropUptoCard : Claim7 := { stood := { row := fnExactSeglogDropUptoRow, standIns := [], harness := (true, "aea19cc44fcb1b74578ecfa9c1e3964666d9719e933a35ea36f8ff18b7176a61"), looks := false }, kinds := [], alts := [], laidByText := true, laidKinds := [.data, .data, .data], laidTests := true, laidLooks := .later }
def FnExactSeglogDropUptoCardSaid : Prop := Claim7.holds Tryd.pinned (.plain (OpenSpec.upto fnExactSeglogDropSpec)) fnExactSeglogDropUptoCard
end Rows
end Go.Proofs.YtkjongbpgdkkoaaDoor
