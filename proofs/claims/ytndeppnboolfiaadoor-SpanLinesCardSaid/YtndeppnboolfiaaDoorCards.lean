/-
  DERIVED. GIVEN WITH THE SEED: THE CARDS: each row of YtndeppnboolfiaaDoorRows.lean that lists a variable, with what it lists TIED to the program's text (the seventh form; the later family's looks); each row that meets fmt, with fmt's text TOLD by the authors' own Lean function (tested against real Go, not proved from fmt's source: count such statements apart). THE CARD IS WHAT COUNTS. Prove the row's statement (the work); the ties are given (YtndeppnboolfiaaDoorTie.lean); close each card by the builder's one call (the guide's Derived/Test/ToyasCard.lean, 'card_holds'). Laid BY PROGRAM, IN A SANDBOX (cutbox-door.mjs). By AI agents, Wed Nov 11 2026. No macro, syntax, notation, axiom, sorry.
-/
import Derived.Test.YtndeppnboolfiaaDoorRows
import GoSem.ClaimSeven
namespace Go.Proofs.YtndeppnboolfiaaDoor
namespace Rows

/-- THE TIED CARD OF 'ullagelaw01.SpanTight'. -/
def spanTightCard : Claim7 := { stood := { row := spanTightRow, standIns := [], harness := (true, "7e28a71841e1e4c47664320b142d8905793b918b68351a7a841925980de1eb57"), looks := false }, kinds := [], alts := [], laidByText := true, laidKinds := [.data, .data, .data], laidTests := true, laidLooks := .later }
def SpanTightCardSaid : Prop := Claim7.holds Tryd.pinned (.plain (OpenSpec.ofChange spanTightSpec)) spanTightCard

/-- THE TIED CARD OF 'ullagelaw01.SpanParts'. -/
def spanPartsCard : Claim7 := { stood := { row := spanPartsRow, standIns := [], harness := (true, "7e28a71841e1e4c47664320b142d8905793b918b68351a7a841925980de1eb57"), looks := false }, kinds := [], alts := [], laidByText := true, laidKinds := [.data, .data, .data], laidTests := true, laidLooks := .later }
def SpanPartsCardSaid : Prop := Claim7.holds Tryd.pinned (.plain (OpenSpec.ofChange spanPartsSpec)) spanPartsCard

/-- THE TIED CARD OF 'ullagelaw01.SpanLines'. -/
def spanLinesCard : Claim7 := { stood := { row := spanLinesRow, standIns := [], harness := (true, "7e28a71841e1e4c47664320b142d8905793b918b68351a7a841925980de1eb57"), looks := false }, kinds := [], alts := [], laidByText := true, laidKinds := [.data, .data, .data], laidTests := true, laidLooks := .later }
def SpanLinesCardSaid : Prop := Claim7.holds Tryd.pinned (.plain (OpenSpec.ofChange spanLinesSpec)) spanLinesCard

/-- THE TIED CARD OF 'ullagelaw01.SpanHolds'. -/
def spanHoldsCard : Claim7 := { stood := { row := spanHoldsRow, standIns := [], harness := (true, "7e28a71841e1e4c47664320b142d8905793b918b68351a7a841925980de1eb57"), looks := false }, kinds := [], alts := [], laidByText := true, laidKinds := [.data, .data, .data], laidTests := true, laidLooks := .later }
def SpanHoldsCardSaid : Prop := Claim7.holds Tryd.pinned (.plain (OpenSpec.ofChange spanHoldsSpec)) spanHoldsCard

/-- THE TIED CARD OF 'ullagelaw01.SpanCircle'. -/
def spanCircleCard : Claim7 := { stood := { row := spanCircleRow, standIns := [], harness := (true, "7e28a71841e1e4c47664320b142d8905793b918b68351a7a841925980de1eb57"), looks := false }, kinds := [], alts := [], laidByText := true, laidKinds := [.data, .data, .data], laidTests := true, laidLooks := .later }
def SpanCircleCardSaid : Prop := Claim7.holds Tryd.pinned (.plain (OpenSpec.ofChange spanCircleSpec)) spanCircleCard

/-- THE TIED CARD OF 'ullagelaw01.SpanInside'. -/
def spanInsideCard : Claim7 := { stood := { row := spanInsideRow, standIns := [], harness := (true, "7e28a71841e1e4c47664320b142d8905793b918b68351a7a841925980de1eb57"), looks := false }, kinds := [], alts := [], laidByText := true, laidKinds := [.data, .data, .data], laidTests := true, laidLooks := .later }
def SpanInsideCardSaid : Prop := Claim7.holds Tryd.pinned (.plain (OpenSpec.ofChange spanInsideSpec)) spanInsideCard

/-- THE TIED CARD OF 'ullagelaw01.SpanTexts'. -/
def spanTextsCard : Claim7 := { stood := { row := spanTextsRow, standIns := [], harness := (true, "7e28a71841e1e4c47664320b142d8905793b918b68351a7a841925980de1eb57"), looks := false }, kinds := [], alts := [], laidByText := true, laidKinds := [.data, .data, .data, .data, .pinned], laidTests := true, laidLooks := .later }
def SpanTextsCardSaid : Prop := Claim7.holds Tryd.pinned (.plain (OpenSpec.ofChange spanTextsSpec)) spanTextsCard

/-- THE TIED CARD OF 'ullagelaw01.SpanBack'. -/
def spanBackCard : Claim7 := { stood := { row := spanBackRow, standIns := [], harness := (true, "7e28a71841e1e4c47664320b142d8905793b918b68351a7a841925980de1eb57"), looks := false }, kinds := [], alts := [], laidByText := true, laidKinds := [.data, .data, .data, .data, .pinned], laidTests := true, laidLooks := .later }
def SpanBackCardSaid : Prop := Claim7.holds Tryd.pinned (.plain (OpenSpec.ofChange spanBackSpec)) spanBackCard

/-- THE SECOND FORM's CARD OF 'ullagelaw01.SpanTight'. -/
def spanTightUptoCard : Claim7 := { stood := { row := spanTightUptoRow, standIns := [], harness := (true, "7e28a71841e1e4c47664320b142d8905793b918b68351a7a841925980de1eb57"), looks := false }, kinds := [], alts := [], laidByText := true, laidKinds := [.data, .data, .data], laidTests := true, laidLooks := .later }
def SpanTightUptoCardSaid : Prop := Claim7.holds Tryd.pinned (.plain (OpenSpec.upto spanTightSpec)) spanTightUptoCard

/-- THE SECOND FORM's CARD OF 'ullagelaw01.SpanParts'. -/
def spanPartsUptoCard : Claim7 := { stood := { row := spanPartsUptoRow, standIns := [], harness := (true, "7e28a71841e1e4c47664320b142d8905793b918b68351a7a841925980de1eb57"), looks := false }, kinds := [], alts := [], laidByText := true, laidKinds := [.data, .data, .data], laidTests := true, laidLooks := .later }
def SpanPartsUptoCardSaid : Prop := Claim7.holds Tryd.pinned (.plain (OpenSpec.upto spanPartsSpec)) spanPartsUptoCard

/-- THE SECOND FORM's CARD OF 'ullagelaw01.SpanLines'. -/
def spanLinesUptoCard : Claim7 := { stood := { row := spanLinesUptoRow, standIns := [], harness := (true, "7e28a71841e1e4c47664320b142d8905793b918b68351a7a841925980de1eb57"), looks := false }, kinds := [], alts := [], laidByText := true, laidKinds := [.data, .data, .data], laidTests := true, laidLooks := .later }
def SpanLinesUptoCardSaid : Prop := Claim7.holds Tryd.pinned (.plain (OpenSpec.upto spanLinesSpec)) spanLinesUptoCard

/-- THE SECOND FORM's CARD OF 'ullagelaw01.SpanHolds'. -/
def spanHoldsUptoCard : Claim7 := { stood := { row := spanHoldsUptoRow, standIns := [], harness := (true, "7e28a71841e1e4c47664320b142d8905793b918b68351a7a841925980de1eb57"), looks := false }, kinds := [], alts := [], laidByText := true, laidKinds := [.data, .data, .data], laidTests := true, laidLooks := .later }
def SpanHoldsUptoCardSaid : Prop := Claim7.holds Tryd.pinned (.plain (OpenSpec.upto spanHoldsSpec)) spanHoldsUptoCard

/-- THE SECOND FORM's CARD OF 'ullagelaw01.SpanCircle'. -/
def spanCircleUptoCard : Claim7 := { stood := { row := spanCircleUptoRow, standIns := [], harness := (true, "7e28a71841e1e4c47664320b142d8905793b918b68351a7a841925980de1eb57"), looks := false }, kinds := [], alts := [], laidByText := true, laidKinds := [.data, .data, .data], laidTests := true, laidLooks := .later }
def SpanCircleUptoCardSaid : Prop := Claim7.holds Tryd.pinned (.plain (OpenSpec.upto spanCircleSpec)) spanCircleUptoCard

/-- THE SECOND FORM's CARD OF 'ullagelaw01.SpanInside'. -/
def spanInsideUptoCard : Claim7 := { stood := { row := spanInsideUptoRow, standIns := [], harness := (true, "7e28a71841e1e4c47664320b142d8905793b918b68351a7a841925980de1eb57"), looks := false }, kinds := [], alts := [], laidByText := true, laidKinds := [.data, .data, .data], laidTests := true, laidLooks := .later }
def SpanInsideUptoCardSaid : Prop := Claim7.holds Tryd.pinned (.plain (OpenSpec.upto spanInsideSpec)) spanInsideUptoCard

/-- THE SECOND FORM's CARD OF 'ullagelaw01.SpanTexts'. -/
def spanTextsUptoCard : Claim7 := { stood := { row := spanTextsUptoRow, standIns := [], harness := (true, "7e28a71841e1e4c47664320b142d8905793b918b68351a7a841925980de1eb57"), looks := false }, kinds := [], alts := [], laidByText := true, laidKinds := [.data, .data, .data, .data, .pinned], laidTests := true, laidLooks := .later }
def SpanTextsUptoCardSaid : Prop := Claim7.holds Tryd.pinned (.plain (OpenSpec.upto spanTextsSpec)) spanTextsUptoCard

/-- THE SECOND FORM's CARD OF 'ullagelaw01.SpanBack'. -/
def spanBackUptoCard : Claim7 := { stood := { row := spanBackUptoRow, standIns := [], harness := (true, "7e28a71841e1e4c47664320b142d8905793b918b68351a7a841925980de1eb57"), looks := false }, kinds := [], alts := [], laidByText := true, laidKinds := [.data, .data, .data, .data, .pinned], laidTests := true, laidLooks := .later }
def SpanBackUptoCardSaid : Prop := Claim7.holds Tryd.pinned (.plain (OpenSpec.upto spanBackSpec)) spanBackUptoCard
end Rows
end Go.Proofs.YtndeppnboolfiaaDoor
