/-
  NARROWER THAN 'FOR EVERY INPUT', by the rows' own cells (each row's printed sentence says how): PayloadSames: laid · PayloadValues: laid · PayloadBytes: laid · PayloadBack: laid · PayloadChecks: laid · PayloadFits: laid.
  DERIVED. THE GIVEN ROWS OF THIS SEAT. 6 by the template 'for every input the law returns true; each argument reads behind the call as it read before'; 0 by the template 'total and deterministic' (their statements: YtbeljekpknpadaaDoorTotals.lean).
  GIVEN WITH THE SEED: the statements are not yours to turn. If you find one false, say at which input.
  Laid BY PROGRAM, IN A SANDBOX (cutbox-rows.mjs): the forced cells as the released guide's own fill.sh prints them over the translation de484eb3d0f47bbc… (all of the seat's roots in one cut). By AI agents, Wed Nov 11 2026. No macro, syntax, notation, axiom, sorry.
-/
import Derived.Test.YtbeljekpknpadaaDoorChecked
import GoSem.PinnedTables
import GoSem.Claim
import GoSem.ClaimJoined
import GoSem.ClaimMapViews
import Derived.JoinedTies
import Derived.KernelRfl
namespace Go.Proofs.YtbeljekpknpadaaDoor
/- THE CELL 'sum', in the pinned program and in every row, IS THE sha256 OF THE DUMP (.gsa) THAT YtbeljekpknpadaaDoorProg.lean LOADS. Nothing in Lean hashes anything: it is a label: what it is worth is what the hold of that sum in a sandbox is worth. -/
noncomputable def Tryd.pinned : Pinned := { name := "ytbeljekpknpadaadoor", sum := "de484eb3d0f47bbcea72c2f9dfb5836fb34b3f00d1fa08919b101f502dab2871", checked := Tryd.checked }
namespace Rows
def none {H : Type} : Left H := { results := [], args := [] }

/- WHAT THE LISTED PACKAGE-LEVEL VARIABLES READ AS WHEN THE CALL BEGINS. Each datum BY PROGRAM (the guide's laid-datum.mjs) off the statement by which the dump's own 'gosem.cut.vars' lays the variable. In a bare row this is a premise. The card (YtbeljekpknpadaaDoorCards.lean) ties it to the program's text. -/
def laid_unicode_utf8_acceptRanges {H : Type} : DataW H := .agg [.agg [.lit (.int .u8 128), .lit (.int .u8 191)], .agg [.lit (.int .u8 160), .lit (.int .u8 191)], .agg [.lit (.int .u8 128), .lit (.int .u8 159)], .agg [.lit (.int .u8 144), .lit (.int .u8 191)], .agg [.lit (.int .u8 128), .lit (.int .u8 143)], .agg [.lit (.int .u8 0), .lit (.int .u8 0)], .agg [.lit (.int .u8 0), .lit (.int .u8 0)], .agg [.lit (.int .u8 0), .lit (.int .u8 0)], .agg [.lit (.int .u8 0), .lit (.int .u8 0)], .agg [.lit (.int .u8 0), .lit (.int .u8 0)], .agg [.lit (.int .u8 0), .lit (.int .u8 0)], .agg [.lit (.int .u8 0), .lit (.int .u8 0)], .agg [.lit (.int .u8 0), .lit (.int .u8 0)], .agg [.lit (.int .u8 0), .lit (.int .u8 0)], .agg [.lit (.int .u8 0), .lit (.int .u8 0)], .agg [.lit (.int .u8 0), .lit (.int .u8 0)]]
/-- One of Go's own tables, pinned by name: the form's constant. -/
def laid_unicode_utf8_first : DataW Unit := Go.Pinned.utf8First

/-- 'lodestarlaw05.PayloadSames': WHATEVER THE INPUT: true; the input reads as it did. -/
def payloadSamesSpec : ChangeSpec := { name := "payloadSames", fn := fun _ => fun
  | [d1, d2] => { results := [.lit (.bool true)], args := [d1, d2] }
  | _ => none }
def payloadSamesRow : OpenClaim := { program := "ytbeljekpknpadaadoor", sum := "de484eb3d0f47bbcea72c2f9dfb5836fb34b3f00d1fa08919b101f502dab2871", func := "lodestar/lodestarlaw05.PayloadSames", spec := "payloadSames", unfollowed := true, recurses := true, named := ["unicode/utf8.first", "unicode/utf8.acceptRanges"], apart := false, laid := [("unicode/utf8.acceptRanges", laid_unicode_utf8_acceptRanges), ("unicode/utf8.first", laid_unicode_utf8_first)] }
def PayloadSamesSaid : Prop := payloadSamesRow.holds Tryd.pinned (OpenSpec.ofChange payloadSamesSpec)

/-- ITS FALSE NEIGHBOUR: 'it returns false'. Refute it at one input. -/
def payloadSamesWrong : ChangeSpec := { name := "payloadSames", fn := fun _ => fun
  | [d1, d2] => { results := [.lit (.bool false)], args := [d1, d2] }
  | _ => none }
def PayloadSamesWrongFalsely : Prop := payloadSamesRow.holds Tryd.pinned (OpenSpec.ofChange payloadSamesWrong)

/-- 'lodestarlaw05.PayloadValues': WHATEVER THE INPUT: true; the input reads as it did. -/
def payloadValuesSpec : ChangeSpec := { name := "payloadValues", fn := fun _ => fun
  | [d1, d2, d3] => { results := [.lit (.bool true)], args := [d1, d2, d3] }
  | _ => none }
def payloadValuesRow : OpenClaim := { program := "ytbeljekpknpadaadoor", sum := "de484eb3d0f47bbcea72c2f9dfb5836fb34b3f00d1fa08919b101f502dab2871", func := "lodestar/lodestarlaw05.PayloadValues", spec := "payloadValues", unfollowed := true, recurses := true, named := ["unicode/utf8.first", "unicode/utf8.acceptRanges"], apart := false, laid := [("unicode/utf8.acceptRanges", laid_unicode_utf8_acceptRanges), ("unicode/utf8.first", laid_unicode_utf8_first)] }
def PayloadValuesSaid : Prop := payloadValuesRow.holds Tryd.pinned (OpenSpec.ofChange payloadValuesSpec)

/-- ITS FALSE NEIGHBOUR: 'it returns false'. Refute it at one input. -/
def payloadValuesWrong : ChangeSpec := { name := "payloadValues", fn := fun _ => fun
  | [d1, d2, d3] => { results := [.lit (.bool false)], args := [d1, d2, d3] }
  | _ => none }
def PayloadValuesWrongFalsely : Prop := payloadValuesRow.holds Tryd.pinned (OpenSpec.ofChange payloadValuesWrong)

/-- 'lodestarlaw05.PayloadBytes': WHATEVER THE INPUT: true; the input reads as it did. -/
def payloadBytesSpec : ChangeSpec := { name := "payloadBytes", fn := fun _ => fun
  | [d1, d2] => { results := [.lit (.bool true)], args := [d1, d2] }
  | _ => none }
def payloadBytesRow : OpenClaim := { program := "ytbeljekpknpadaadoor", sum := "de484eb3d0f47bbcea72c2f9dfb5836fb34b3f00d1fa08919b101f502dab2871", func := "lodestar/lodestarlaw05.PayloadBytes", spec := "payloadBytes", unfollowed := true, recurses := true, named := ["unicode/utf8.first", "unicode/utf8.acceptRanges"], apart := false, laid := [("unicode/utf8.acceptRanges", laid_unicode_utf8_acceptRanges), ("unicode/utf8.first", laid_unicode_utf8_first)] }
def PayloadBytesSaid : Prop := payloadBytesRow.holds Tryd.pinned (OpenSpec.ofChange payloadBytesSpec)

/-- ITS FALSE NEIGHBOUR: 'it returns false'. Refute it at one input. -/
def payloadBytesWrong : ChangeSpec := { name := "payloadBytes", fn := fun _ => fun
  | [d1, d2] => { results := [.lit (.bool false)], args := [d1, d2] }
  | _ => none }
def PayloadBytesWrongFalsely : Prop := payloadBytesRow.holds Tryd.pinned (OpenSpec.ofChange payloadBytesWrong)

/-- 'lodestarlaw05.PayloadBack': WHATEVER THE INPUT: true; the input reads as it did. -/
def payloadBackSpec : ChangeSpec := { name := "payloadBack", fn := fun _ => fun
  | [d1, d2, d3] => { results := [.lit (.bool true)], args := [d1, d2, d3] }
  | _ => none }
def payloadBackRow : OpenClaim := { program := "ytbeljekpknpadaadoor", sum := "de484eb3d0f47bbcea72c2f9dfb5836fb34b3f00d1fa08919b101f502dab2871", func := "lodestar/lodestarlaw05.PayloadBack", spec := "payloadBack", unfollowed := true, recurses := true, named := ["unicode/utf8.first", "unicode/utf8.acceptRanges"], apart := false, laid := [("unicode/utf8.acceptRanges", laid_unicode_utf8_acceptRanges), ("unicode/utf8.first", laid_unicode_utf8_first)] }
def PayloadBackSaid : Prop := payloadBackRow.holds Tryd.pinned (OpenSpec.ofChange payloadBackSpec)

/-- ITS FALSE NEIGHBOUR: 'it returns false'. Refute it at one input. -/
def payloadBackWrong : ChangeSpec := { name := "payloadBack", fn := fun _ => fun
  | [d1, d2, d3] => { results := [.lit (.bool false)], args := [d1, d2, d3] }
  | _ => none }
def PayloadBackWrongFalsely : Prop := payloadBackRow.holds Tryd.pinned (OpenSpec.ofChange payloadBackWrong)

/-- 'lodestarlaw05.PayloadChecks': WHATEVER THE INPUT: true; the input reads as it did. -/
def payloadChecksSpec : ChangeSpec := { name := "payloadChecks", fn := fun _ => fun
  | [d1, d2] => { results := [.lit (.bool true)], args := [d1, d2] }
  | _ => none }
def payloadChecksRow : OpenClaim := { program := "ytbeljekpknpadaadoor", sum := "de484eb3d0f47bbcea72c2f9dfb5836fb34b3f00d1fa08919b101f502dab2871", func := "lodestar/lodestarlaw05.PayloadChecks", spec := "payloadChecks", unfollowed := true, recurses := true, named := ["unicode/utf8.first", "unicode/utf8.acceptRanges"], apart := false, laid := [("unicode/utf8.acceptRanges", laid_unicode_utf8_acceptRanges), ("unicode/utf8.first", laid_unicode_utf8_first)] }
def PayloadChecksSaid : Prop := payloadChecksRow.holds Tryd.pinned (OpenSpec.ofChange payloadChecksSpec)

/-- ITS FALSE NEIGHBOUR: 'it returns false'. Refute it at one input. -/
def payloadChecksWrong : ChangeSpec := { name := "payloadChecks", fn := fun _ => fun
  | [d1, d2] => { results := [.lit (.bool false)], args := [d1, d2] }
  | _ => none }
def PayloadChecksWrongFalsely : Prop := payloadChecksRow.holds Tryd.pinned (OpenSpec.ofChange payloadChecksWrong)

/-- 'lodestarlaw05.PayloadFits': WHATEVER THE INPUT: true; the input reads as it did. -/
def payloadFitsSpec : ChangeSpec := { name := "payloadFits", fn := fun _ => fun
  | [d1, d2] => { results := [.lit (.bool true)], args := [d1, d2] }
  | _ => none }
def payloadFitsRow : OpenClaim := { program := "ytbeljekpknpadaadoor", sum := "de484eb3d0f47bbcea72c2f9dfb5836fb34b3f00d1fa08919b101f502dab2871", func := "lodestar/lodestarlaw05.PayloadFits", spec := "payloadFits", unfollowed := true, recurses := true, named := ["unicode/utf8.first", "unicode/utf8.acceptRanges"], apart := false, laid := [("unicode/utf8.acceptRanges", laid_unicode_utf8_acceptRanges), ("unicode/utf8.first", laid_unicode_utf8_first)] }
def PayloadFitsSaid : Prop := payloadFitsRow.holds Tryd.pinned (OpenSpec.ofChange payloadFitsSpec)

/-- ITS FALSE NEIGHBOUR: 'it returns false'. Refute it at one input. -/
def payloadFitsWrong : ChangeSpec := { name := "payloadFits", fn := fun _ => fun
  | [d1, d2] => { results := [.lit (.bool false)], args := [d1, d2] }
  | _ => none }
def PayloadFitsWrongFalsely : Prop := payloadFitsRow.holds Tryd.pinned (OpenSpec.ofChange payloadFitsWrong)

/- THE SECOND FORM. 'bulk': how many values and letters a reading holds, each counted each time it is reached (what is shared counts as often as it is met; a slice's spare places count too). A statement '..UptoSaid' is the law's where the arguments, and the package variables that the reading takes, are together of bulk at most 1048576: NARROWER than '..Said'. Prove '..Said' where nothing that the law and all that it calls make is longer than what came in: it says more and counts as full. Else prove '..UptoSaid'. A law counts once. -/
mutual
def uptoBulk {H : Type} : DataW H → Nat
  | .lit (.string bytes) => bytes.length + 1
  | .lit _ => 1
  | .nil => 1
  | .ptr d => uptoBulk d + 1
  | .slice elems spare => uptoBulkAll elems + uptoBulkAll spare + 1
  | .agg parts => uptoBulkAll parts + 1
  | .iface _ d => uptoBulk d + 1
  | .map entries => uptoBulkEntries entries + 1
  | .held _ => 1
def uptoBulkAll {H : Type} : List (DataW H) → Nat
  | [] => 0
  | d :: r => uptoBulk d + uptoBulkAll r
def uptoBulkEntries {H : Type} : List (Lit × DataW H) → Nat
  | [] => 0
  | x :: r => uptoBulkEntry x + uptoBulkEntries r
def uptoBulkEntry {H : Type} : Lit × DataW H → Nat
  | (.string bytes, d) => bytes.length + uptoBulk d + 1
  | (_, d) => uptoBulk d + 1
 end
def uptoSmall : (H : Type) → List (DataW H) → Bool := fun _ ds => decide (uptoBulkAll ds ≤ 1048576)
def OpenSpec.upto (s : _root_.Go.ChangeSpec) : _root_.Go.OpenSpec := { _root_.Go.OpenSpec.ofChange s with cond := some uptoSmall }

/-- 'lodestarlaw05.PayloadSames', WHERE WHAT IT READS IS OF BULK AT MOST 1048576: true; the input reads as it did. -/
def payloadSamesUptoRow : OpenClaim := { program := "ytbeljekpknpadaadoor", sum := "de484eb3d0f47bbcea72c2f9dfb5836fb34b3f00d1fa08919b101f502dab2871", func := "lodestar/lodestarlaw05.PayloadSames", spec := "payloadSames", unfollowed := true, recurses := true, named := ["unicode/utf8.first", "unicode/utf8.acceptRanges"], apart := false, laid := [("unicode/utf8.acceptRanges", laid_unicode_utf8_acceptRanges), ("unicode/utf8.first", laid_unicode_utf8_first)], narrowed := true }
def PayloadSamesUptoSaid : Prop := payloadSamesUptoRow.holds Tryd.pinned (OpenSpec.upto payloadSamesSpec)

/-- 'lodestarlaw05.PayloadValues', WHERE WHAT IT READS IS OF BULK AT MOST 1048576: true; the input reads as it did. -/
def payloadValuesUptoRow : OpenClaim := { program := "ytbeljekpknpadaadoor", sum := "de484eb3d0f47bbcea72c2f9dfb5836fb34b3f00d1fa08919b101f502dab2871", func := "lodestar/lodestarlaw05.PayloadValues", spec := "payloadValues", unfollowed := true, recurses := true, named := ["unicode/utf8.first", "unicode/utf8.acceptRanges"], apart := false, laid := [("unicode/utf8.acceptRanges", laid_unicode_utf8_acceptRanges), ("unicode/utf8.first", laid_unicode_utf8_first)], narrowed := true }
def PayloadValuesUptoSaid : Prop := payloadValuesUptoRow.holds Tryd.pinned (OpenSpec.upto payloadValuesSpec)

/-- 'lodestarlaw05.PayloadBytes', WHERE WHAT IT READS IS OF BULK AT MOST 1048576: true; the input reads as it did. -/
def payloadBytesUptoRow : OpenClaim := { program := "ytbeljekpknpadaadoor", sum := "de484eb3d0f47bbcea72c2f9dfb5836fb34b3f00d1fa08919b101f502dab2871", func := "lodestar/lodestarlaw05.PayloadBytes", spec := "payloadBytes", unfollowed := true, recurses := true, named := ["unicode/utf8.first", "unicode/utf8.acceptRanges"], apart := false, laid := [("unicode/utf8.acceptRanges", laid_unicode_utf8_acceptRanges), ("unicode/utf8.first", laid_unicode_utf8_first)], narrowed := true }
def PayloadBytesUptoSaid : Prop := payloadBytesUptoRow.holds Tryd.pinned (OpenSpec.upto payloadBytesSpec)

/-- 'lodestarlaw05.PayloadBack', WHERE WHAT IT READS IS OF BULK AT MOST 1048576: true; the input reads as it did. -/
def payloadBackUptoRow : OpenClaim := { program := "ytbeljekpknpadaadoor", sum := "de484eb3d0f47bbcea72c2f9dfb5836fb34b3f00d1fa08919b101f502dab2871", func := "lodestar/lodestarlaw05.PayloadBack", spec := "payloadBack", unfollowed := true, recurses := true, named := ["unicode/utf8.first", "unicode/utf8.acceptRanges"], apart := false, laid := [("unicode/utf8.acceptRanges", laid_unicode_utf8_acceptRanges), ("unicode/utf8.first", laid_unicode_utf8_first)], narrowed := true }
def PayloadBackUptoSaid : Prop := payloadBackUptoRow.holds Tryd.pinned (OpenSpec.upto payloadBackSpec)

/-- 'lodestarlaw05.PayloadChecks', WHERE WHAT IT READS IS OF BULK AT MOST 1048576: true; the input reads as it did. -/
def payloadChecksUptoRow : OpenClaim := { program := "ytbeljekpknpadaadoor", sum := "de484eb3d0f47bbcea72c2f9dfb5836fb34b3f00d1fa08919b101f502dab2871", func := "lodestar/lodestarlaw05.PayloadChecks", spec := "payloadChecks", unfollowed := true, recurses := true, named := ["unicode/utf8.first", "unicode/utf8.acceptRanges"], apart := false, laid := [("unicode/utf8.acceptRanges", laid_unicode_utf8_acceptRanges), ("unicode/utf8.first", laid_unicode_utf8_first)], narrowed := true }
def PayloadChecksUptoSaid : Prop := payloadChecksUptoRow.holds Tryd.pinned (OpenSpec.upto payloadChecksSpec)

/-- 'lodestarlaw05.PayloadFits', WHERE WHAT IT READS IS OF BULK AT MOST 1048576: true; the input reads as it did. -/
def payloadFitsUptoRow : OpenClaim := { program := "ytbeljekpknpadaadoor", sum := "de484eb3d0f47bbcea72c2f9dfb5836fb34b3f00d1fa08919b101f502dab2871", func := "lodestar/lodestarlaw05.PayloadFits", spec := "payloadFits", unfollowed := true, recurses := true, named := ["unicode/utf8.first", "unicode/utf8.acceptRanges"], apart := false, laid := [("unicode/utf8.acceptRanges", laid_unicode_utf8_acceptRanges), ("unicode/utf8.first", laid_unicode_utf8_first)], narrowed := true }
def PayloadFitsUptoSaid : Prop := payloadFitsUptoRow.holds Tryd.pinned (OpenSpec.upto payloadFitsSpec)

end Rows
end Go.Proofs.YtbeljekpknpadaaDoor
