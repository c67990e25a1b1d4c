/-
  DERIVED. GIVEN WITH THE SEED: THE CARDS: each row of YtbeljekpknpadaaDoorRows.lean that lists a variable, with what it lists TIED to the program's text (the seventh form; the later family's looks); each row that meets fmt, with fmt's text TOLD by the authors' own Lean function (tested against real Go, not proved from fmt's source: count such statements apart). THE CARD IS WHAT COUNTS. Prove the row's statement (the work); the ties are given (YtbeljekpknpadaaDoorTie.lean); close each card by the builder's one call (the guide's Derived/Test/ToyasCard.lean, 'card_holds'). Laid BY PROGRAM, IN A SANDBOX (cutbox-door.mjs). By AI agents, Wed Nov 11 2026. No macro, syntax, notation, axiom, sorry.
-/
import Derived.Test.YtbeljekpknpadaaDoorRows
import GoSem.ClaimSeven
namespace Go.Proofs.YtbeljekpknpadaaDoor
namespace Rows

/-- THE TIED CARD OF 'lodestarlaw05.PayloadSames'. -/
def payloadSamesCard : Claim7 := { stood := { row := payloadSamesRow, standIns := [], harness := (true, "dbedd98628fcf4cf7476621dfbe72114d20689e01c4c458e9d563d5299b5ac79"), looks := false }, kinds := [], alts := [], laidByText := true, laidKinds := [.data, .pinned], laidTests := true, laidLooks := .later }
def PayloadSamesCardSaid : Prop := Claim7.holds Tryd.pinned (.plain (OpenSpec.ofChange payloadSamesSpec)) payloadSamesCard

/-- THE TIED CARD OF 'lodestarlaw05.PayloadValues'. -/
def payloadValuesCard : Claim7 := { stood := { row := payloadValuesRow, standIns := [], harness := (true, "dbedd98628fcf4cf7476621dfbe72114d20689e01c4c458e9d563d5299b5ac79"), looks := false }, kinds := [], alts := [], laidByText := true, laidKinds := [.data, .pinned], laidTests := true, laidLooks := .later }
def PayloadValuesCardSaid : Prop := Claim7.holds Tryd.pinned (.plain (OpenSpec.ofChange payloadValuesSpec)) payloadValuesCard

/-- THE TIED CARD OF 'lodestarlaw05.PayloadBytes'. -/
def payloadBytesCard : Claim7 := { stood := { row := payloadBytesRow, standIns := [], harness := (true, "dbedd98628fcf4cf7476621dfbe72114d20689e01c4c458e9d563d5299b5ac79"), looks := false }, kinds := [], alts := [], laidByText := true, laidKinds := [.data, .pinned], laidTests := true, laidLooks := .later }
def PayloadBytesCardSaid : Prop := Claim7.holds Tryd.pinned (.plain (OpenSpec.ofChange payloadBytesSpec)) payloadBytesCard

/-- THE TIED CARD OF 'lodestarlaw05.PayloadBack'. -/
def payloadBackCard : Claim7 := { stood := { row := payloadBackRow, standIns := [], harness := (true, "dbedd98628fcf4cf7476621dfbe72114d20689e01c4c458e9d563d5299b5ac79"), looks := false }, kinds := [], alts := [], laidByText := true, laidKinds := [.data, .pinned], laidTests := true, laidLooks := .later }
def PayloadBackCardSaid : Prop := Claim7.holds Tryd.pinned (.plain (OpenSpec.ofChange payloadBackSpec)) payloadBackCard

/-- THE TIED CARD OF 'lodestarlaw05.PayloadChecks'. -/
def payloadChecksCard : Claim7 := { stood := { row := payloadChecksRow, standIns := [], harness := (true, "dbedd98628fcf4cf7476621dfbe72114d20689e01c4c458e9d563d5299b5ac79"), looks := false }, kinds := [], alts := [], laidByText := true, laidKinds := [.data, .pinned], laidTests := true, laidLooks := .later }
def PayloadChecksCardSaid : Prop := Claim7.holds Tryd.pinned (.plain (OpenSpec.ofChange payloadChecksSpec)) payloadChecksCard

/-- THE TIED CARD OF 'lodestarlaw05.PayloadFits'. -/
def payloadFitsCard : Claim7 := { stood := { row := payloadFitsRow, standIns := [], harness := (true, "dbedd98628fcf4cf7476621dfbe72114d20689e01c4c458e9d563d5299b5ac79"), looks := false }, kinds := [], alts := [], laidByText := true, laidKinds := [.data, .pinned], laidTests := true, laidLooks := .later }
def PayloadFitsCardSaid : Prop := Claim7.holds Tryd.pinned (.plain (OpenSpec.ofChange payloadFitsSpec)) payloadFitsCard

/-- THE SECOND FORM's CARD OF 'lodestarlaw05.PayloadSames'. -/
def payloadSamesUptoCard : Claim7 := { stood := { row := payloadSamesUptoRow, standIns := [], harness := (true, "dbedd98628fcf4cf7476621dfbe72114d20689e01c4c458e9d563d5299b5ac79"), looks := false }, kinds := [], alts := [], laidByText := true, laidKinds := [.data, .pinned], laidTests := true, laidLooks := .later }
def PayloadSamesUptoCardSaid : Prop := Claim7.holds Tryd.pinned (.plain (OpenSpec.upto payloadSamesSpec)) payloadSamesUptoCard

/-- THE SECOND FORM's CARD OF 'lodestarlaw05.PayloadValues'. -/
def payloadValuesUptoCard : Claim7 := { stood := { row := payloadValuesUptoRow, standIns := [], harness := (true, "dbedd98628fcf4cf7476621dfbe72114d20689e01c4c458e9d563d5299b5ac79"), looks := false }, kinds := [], alts := [], laidByText := true, laidKinds := [.data, .pinned], laidTests := true, laidLooks := .later }
def PayloadValuesUptoCardSaid : Prop := Claim7.holds Tryd.pinned (.plain (OpenSpec.upto payloadValuesSpec)) payloadValuesUptoCard

/-- THE SECOND FORM's CARD OF 'lodestarlaw05.PayloadBytes'. -/
def payloadBytesUptoCard : Claim7 := { stood := { row := payloadBytesUptoRow, standIns := [], harness := (true, "dbedd98628fcf4cf7476621dfbe72114d20689e01c4c458e9d563d5299b5ac79"), looks := false }, kinds := [], alts := [], laidByText := true, laidKinds := [.data, .pinned], laidTests := true, laidLooks := .later }
def PayloadBytesUptoCardSaid : Prop := Claim7.holds Tryd.pinned (.plain (OpenSpec.upto payloadBytesSpec)) payloadBytesUptoCard

/-- THE SECOND FORM's CARD OF 'lodestarlaw05.PayloadBack'. -/
def payloadBackUptoCard : Claim7 := { stood := { row := payloadBackUptoRow, standIns := [], harness := (true, "dbedd98628fcf4cf7476621dfbe72114d20689e01c4c458e9d563d5299b5ac79"), looks := false }, kinds := [], alts := [], laidByText := true, laidKinds := [.data, .pinned], laidTests := true, laidLooks := .later }
def PayloadBackUptoCardSaid : Prop := Claim7.holds Tryd.pinned (.plain (OpenSpec.upto payloadBackSpec)) payloadBackUptoCard

/-- THE SECOND FORM's CARD OF 'lodestarlaw05.PayloadChecks'. -/
def payloadChecksUptoCard : Claim7 := { stood := { row := payloadChecksUptoRow, standIns := [], harness := (true, "dbedd98628fcf4cf7476621dfbe72114d20689e01c4c458e9d563d5299b5ac79"), looks := false }, kinds := [], alts := [], laidByText := true, laidKinds := [.data, .pinned], laidTests := true, laidLooks := .later }
def PayloadChecksUptoCardSaid : Prop := Claim7.holds Tryd.pinned (.plain (OpenSpec.upto payloadChecksSpec)) payloadChecksUptoCard

/-- THE SECOND FORM's CARD OF 'lodestarlaw05.PayloadFits'. -/
def payloadFitsUptoCard : Claim7 := { stood := { row := payloadFitsUptoRow, standIns := [], harness := (true, "dbedd98628fcf4cf7476621dfbe72114d20689e01c4c458e9d563d5299b5ac79"), looks := false }, kinds := [], alts := [], laidByText := true, laidKinds := [.data, .pinned], laidTests := true, laidLooks := .later }
def PayloadFitsUptoCardSaid : Prop := Claim7.holds Tryd.pinned (.plain (OpenSpec.upto payloadFitsSpec)) payloadFitsUptoCard
end Rows
end Go.Proofs.YtbeljekpknpadaaDoor
