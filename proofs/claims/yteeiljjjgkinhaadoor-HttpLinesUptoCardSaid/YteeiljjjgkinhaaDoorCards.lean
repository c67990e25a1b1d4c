/-
  DERIVED. GIVEN WITH THE SEED: THE CARDS: each row of YteeiljjjgkinhaaDoorRows.lean that lists a variable, with what it lists TIED to the program's text (the seventh form; the later family's looks); each row that meets fmt, with fmt's text TOLD by the authors' own Lean function (tested against real Go, not proved from fmt's source: count such statements apart). THE CARD IS WHAT COUNTS. Prove the row's statement (the work); the ties are given (YteeiljjjgkinhaaDoorTie.lean); close each card by the builder's one call (the guide's Derived/Test/ToyasCard.lean, 'card_holds'). Laid BY PROGRAM, IN A SANDBOX (cutbox-door.mjs). By AI agents, Wed Nov 11 2026. No macro, syntax, notation, axiom, sorry.
-/
import Derived.Test.YteeiljjjgkinhaaDoorRows
import GoSem.ClaimSeven
namespace Go.Proofs.YteeiljjjgkinhaaDoor
namespace Rows

/-- THE TIED CARD OF 'lodestarlaw04.HttpBack'. -/
def httpBackCard : Claim7 := { stood := { row := httpBackRow, standIns := [], harness := (true, "0d606fea1062cc9b6e4c7411b1c08d86e31e9935edef1f6171f27620bcf9e173"), looks := true }, kinds := [], alts := [], laidByText := true, laidKinds := [.data, .data, .data, .data, .sentinel, .sentinel, .pinned, .pinned], laidTests := true, laidLooks := .later }
def HttpBackCardSaid : Prop := Claim7.holds Tryd.pinned (.plain (OpenSpec.ofChange httpBackSpec)) httpBackCard

/-- THE TIED CARD OF 'lodestarlaw04.HttpLines'. -/
def httpLinesCard : Claim7 := { stood := { row := httpLinesRow, standIns := [], harness := (true, "0d606fea1062cc9b6e4c7411b1c08d86e31e9935edef1f6171f27620bcf9e173"), looks := true }, kinds := [], alts := [], laidByText := true, laidKinds := [.data, .data, .data, .data, .sentinel, .sentinel, .pinned, .pinned], laidTests := true, laidLooks := .later }
def HttpLinesCardSaid : Prop := Claim7.holds Tryd.pinned (.plain (OpenSpec.ofChange httpLinesSpec)) httpLinesCard

/-- THE TIED CARD OF 'lodestarlaw04.HttpLimits'. -/
def httpLimitsCard : Claim7 := { stood := { row := httpLimitsRow, standIns := [], harness := (true, "0d606fea1062cc9b6e4c7411b1c08d86e31e9935edef1f6171f27620bcf9e173"), looks := true }, kinds := [], alts := [], laidByText := true, laidKinds := [.data, .data, .data, .data, .sentinel, .sentinel, .pinned, .pinned], laidTests := true, laidLooks := .later }
def HttpLimitsCardSaid : Prop := Claim7.holds Tryd.pinned (.plain (OpenSpec.ofChange httpLimitsSpec)) httpLimitsCard

/-- THE SECOND FORM's CARD OF 'lodestarlaw04.HttpBack'. -/
def httpBackUptoCard : Claim7 := { stood := { row := httpBackUptoRow, standIns := [], harness := (true, "0d606fea1062cc9b6e4c7411b1c08d86e31e9935edef1f6171f27620bcf9e173"), looks := true }, kinds := [], alts := [], laidByText := true, laidKinds := [.data, .data, .data, .data, .sentinel, .sentinel, .pinned, .pinned], laidTests := true, laidLooks := .later }
def HttpBackUptoCardSaid : Prop := Claim7.holds Tryd.pinned (.plain (OpenSpec.upto httpBackSpec)) httpBackUptoCard

/-- THE SECOND FORM's CARD OF 'lodestarlaw04.HttpLines'. -/
def httpLinesUptoCard : Claim7 := { stood := { row := httpLinesUptoRow, standIns := [], harness := (true, "0d606fea1062cc9b6e4c7411b1c08d86e31e9935edef1f6171f27620bcf9e173"), looks := true }, kinds := [], alts := [], laidByText := true, laidKinds := [.data, .data, .data, .data, .sentinel, .sentinel, .pinned, .pinned], laidTests := true, laidLooks := .later }
def HttpLinesUptoCardSaid : Prop := Claim7.holds Tryd.pinned (.plain (OpenSpec.upto httpLinesSpec)) httpLinesUptoCard

/-- THE SECOND FORM's CARD OF 'lodestarlaw04.HttpLimits'. -/
def httpLimitsUptoCard : Claim7 := { stood := { row := httpLimitsUptoRow, standIns := [], harness := (true, "0d606fea1062cc9b6e4c7411b1c08d86e31e9935edef1f6171f27620bcf9e173"), looks := true }, kinds := [], alts := [], laidByText := true, laidKinds := [.data, .data, .data, .data, .sentinel, .sentinel, .pinned, .pinned], laidTests := true, laidLooks := .later }
def HttpLimitsUptoCardSaid : Prop := Claim7.holds Tryd.pinned (.plain (OpenSpec.upto httpLimitsSpec)) httpLimitsUptoCard
end Rows
end Go.Proofs.YteeiljjjgkinhaaDoor
