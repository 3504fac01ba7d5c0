/-
  DERIVED. GIVEN WITH THE SEED: THE CARDS: each row of YtkphijabhoppnaaDoorRows.lean that lists a variable, with what it lists TIED to the program's text (the seventh form; the later family's looks); each row that meets fmt, with fmt's text TOLD by the authors' own Lean function (tested against real Go, not proved from fmt's source: count such statements apart). THE CARD IS WHAT COUNTS. Prove the row's statement (the work); the ties are given (YtkphijabhoppnaaDoorTie.lean); close each card by the builder's one call (the guide's Derived/Test/ToyasCard.lean, 'card_holds'). Laid BY PROGRAM, IN A SANDBOX (cutbox-door.mjs). By AI agents, Wed Nov 11 2026. No macro, syntax, notation, axiom, sorry.
-/
import Derived.Test.YtkphijabhoppnaaDoorRows
import GoSem.ClaimSeven
namespace Go.Proofs.YtkphijabhoppnaaDoor
namespace Rows

/-- THE TIED CARD OF 'brazierlaw13.CodeReads'. -/
def codeReadsCard : Claim7 := { stood := { row := codeReadsRow, standIns := [], harness := (true, "dff076d28d72787f367933f665c774f54cf54db02e818c49b8a8dda6899c673f"), looks := true }, kinds := [], alts := [], laidByText := true, laidKinds := [.data, .data, .data, .listed, .data], laidTests := true, laidLooks := .later }
def CodeReadsCardSaid : Prop := Claim7.holds Tryd.pinned (.plain (OpenSpec.ofChange codeReadsSpec)) codeReadsCard

/-- THE TIED CARD OF 'brazierlaw13.CodePlaces'. -/
def codePlacesCard : Claim7 := { stood := { row := codePlacesRow, standIns := [], harness := (true, "dff076d28d72787f367933f665c774f54cf54db02e818c49b8a8dda6899c673f"), looks := true }, kinds := [], alts := [], laidByText := true, laidKinds := [.data, .data, .data, .listed, .data], laidTests := true, laidLooks := .later }
def CodePlacesCardSaid : Prop := Claim7.holds Tryd.pinned (.plain (OpenSpec.ofChange codePlacesSpec)) codePlacesCard

/-- THE TIED CARD OF 'brazierlaw13.CodeWrites'. -/
def codeWritesCard : Claim7 := { stood := { row := codeWritesRow, standIns := [], harness := (true, "dff076d28d72787f367933f665c774f54cf54db02e818c49b8a8dda6899c673f"), looks := true }, kinds := [], alts := [], laidByText := true, laidKinds := [.data, .data, .data, .listed, .data], laidTests := true, laidLooks := .later }
def CodeWritesCardSaid : Prop := Claim7.holds Tryd.pinned (.plain (OpenSpec.ofChange codeWritesSpec)) codeWritesCard

/-- THE TIED CARD OF 'brazierlaw15.VerifyStack'. -/
def verifyStackCard : Claim7 := { stood := { row := verifyStackRow, standIns := [], harness := (true, "dff076d28d72787f367933f665c774f54cf54db02e818c49b8a8dda6899c673f"), looks := true }, kinds := [], alts := [], laidByText := true, laidKinds := [.listed, .data], laidTests := true, laidLooks := .later }
def VerifyStackCardSaid : Prop := Claim7.holds Tryd.pinned (.plain (OpenSpec.ofChange verifyStackSpec)) verifyStackCard

/-- THE TIED CARD OF 'brazierlaw15.VerifyMethods'. -/
def verifyMethodsCard : Claim7 := { stood := { row := verifyMethodsRow, standIns := [], harness := (true, "dff076d28d72787f367933f665c774f54cf54db02e818c49b8a8dda6899c673f"), looks := true }, kinds := [], alts := [], laidByText := true, laidKinds := [.listed, .data], laidTests := true, laidLooks := .later }
def VerifyMethodsCardSaid : Prop := Claim7.holds Tryd.pinned (.plain (OpenSpec.ofChange verifyMethodsSpec)) verifyMethodsCard

/-- THE TIED CARD OF 'brazierlaw15.VerifyShapes'. -/
def verifyShapesCard : Claim7 := { stood := { row := verifyShapesRow, standIns := [], harness := (true, "dff076d28d72787f367933f665c774f54cf54db02e818c49b8a8dda6899c673f"), looks := true }, kinds := [], alts := [], laidByText := true, laidKinds := [.listed, .data], laidTests := true, laidLooks := .later }
def VerifyShapesCardSaid : Prop := Claim7.holds Tryd.pinned (.plain (OpenSpec.ofChange verifyShapesSpec)) verifyShapesCard

/-- THE TIED CARD OF 'brazierlaw13.CodeParses'. -/
def codeParsesCard : Claim7 := { stood := { row := codeParsesRow, standIns := [], harness := (true, "dff076d28d72787f367933f665c774f54cf54db02e818c49b8a8dda6899c673f"), looks := true }, kinds := [], alts := [], laidByText := true, laidKinds := [.data, .data, .data, .data, .sentinel, .sentinel, .listed, .data, .pinned], laidTests := true, laidLooks := .later }
def CodeParsesCardSaid : Prop := Claim7.holds Tryd.pinned (.plain (OpenSpec.ofChange codeParsesSpec)) codeParsesCard

/-- THE TIED CARD OF 'brazierlaw13.CodeBack'. -/
def codeBackCard : Claim7 := { stood := { row := codeBackRow, standIns := [], harness := (true, "dff076d28d72787f367933f665c774f54cf54db02e818c49b8a8dda6899c673f"), looks := true }, kinds := [], alts := [], laidByText := true, laidKinds := [.data, .data, .data, .data, .sentinel, .sentinel, .listed, .data, .pinned], laidTests := true, laidLooks := .later }
def CodeBackCardSaid : Prop := Claim7.holds Tryd.pinned (.plain (OpenSpec.ofChange codeBackSpec)) codeBackCard

/-- THE TIED CARD OF 'brazierlaw5.TextLines'. -/
def textLinesCard : Claim7 := { stood := { row := textLinesRow, standIns := [], harness := (true, "dff076d28d72787f367933f665c774f54cf54db02e818c49b8a8dda6899c673f"), looks := true }, kinds := [], alts := [], laidByText := true, laidKinds := [.data, .data, .data, .data, .sentinel, .sentinel, .listed, .data, .pinned], laidTests := true, laidLooks := .later }
def TextLinesCardSaid : Prop := Claim7.holds Tryd.pinned (.plain (OpenSpec.ofChange textLinesSpec)) textLinesCard

/-- THE SECOND FORM's CARD OF 'brazierlaw13.CodeReads'. -/
def codeReadsUptoCard : Claim7 := { stood := { row := codeReadsUptoRow, standIns := [], harness := (true, "dff076d28d72787f367933f665c774f54cf54db02e818c49b8a8dda6899c673f"), looks := true }, kinds := [], alts := [], laidByText := true, laidKinds := [.data, .data, .data, .listed, .data], laidTests := true, laidLooks := .later }
def CodeReadsUptoCardSaid : Prop := Claim7.holds Tryd.pinned (.plain (OpenSpec.upto codeReadsSpec)) codeReadsUptoCard

/-- THE SECOND FORM's CARD OF 'brazierlaw13.CodePlaces'. -/
def codePlacesUptoCard : Claim7 := { stood := { row := codePlacesUptoRow, standIns := [], harness := (true, "dff076d28d72787f367933f665c774f54cf54db02e818c49b8a8dda6899c673f"), looks := true }, kinds := [], alts := [], laidByText := true, laidKinds := [.data, .data, .data, .listed, .data], laidTests := true, laidLooks := .later }
def CodePlacesUptoCardSaid : Prop := Claim7.holds Tryd.pinned (.plain (OpenSpec.upto codePlacesSpec)) codePlacesUptoCard

/-- THE SECOND FORM's CARD OF 'brazierlaw13.CodeWrites'. -/
def codeWritesUptoCard : Claim7 := { stood := { row := codeWritesUptoRow, standIns := [], harness := (true, "dff076d28d72787f367933f665c774f54cf54db02e818c49b8a8dda6899c673f"), looks := true }, kinds := [], alts := [], laidByText := true, laidKinds := [.data, .data, .data, .listed, .data], laidTests := true, laidLooks := .later }
def CodeWritesUptoCardSaid : Prop := Claim7.holds Tryd.pinned (.plain (OpenSpec.upto codeWritesSpec)) codeWritesUptoCard

/-- THE SECOND FORM's CARD OF 'brazierlaw15.VerifyStack'. -/
def verifyStackUptoCard : Claim7 := { stood := { row := verifyStackUptoRow, standIns := [], harness := (true, "dff076d28d72787f367933f665c774f54cf54db02e818c49b8a8dda6899c673f"), looks := true }, kinds := [], alts := [], laidByText := true, laidKinds := [.listed, .data], laidTests := true, laidLooks := .later }
def VerifyStackUptoCardSaid : Prop := Claim7.holds Tryd.pinned (.plain (OpenSpec.upto verifyStackSpec)) verifyStackUptoCard

/-- THE SECOND FORM's CARD OF 'brazierlaw15.VerifyMethods'. -/
def verifyMethodsUptoCard : Claim7 := { stood := { row := verifyMethodsUptoRow, standIns := [], harness := (true, "dff076d28d72787f367933f665c774f54cf54db02e818c49b8a8dda6899c673f"), looks := true }, kinds := [], alts := [], laidByText := true, laidKinds := [.listed, .data], laidTests := true, laidLooks := .later }
def VerifyMethodsUptoCardSaid : Prop := Claim7.holds Tryd.pinned (.plain (OpenSpec.upto verifyMethodsSpec)) verifyMethodsUptoCard

/-- THE SECOND FORM's CARD OF 'brazierlaw15.VerifyShapes'. -/
def verifyShapesUptoCard : Claim7 := { stood := { row := verifyShapesUptoRow, standIns := [], harness := (true, "dff076d28d72787f367933f665c774f54cf54db02e818c49b8a8dda6899c673f"), looks := true }, kinds := [], alts := [], laidByText := true, laidKinds := [.listed, .data], laidTests := true, laidLooks := .later }
def VerifyShapesUptoCardSaid : Prop := Claim7.holds Tryd.pinned (.plain (OpenSpec.upto verifyShapesSpec)) verifyShapesUptoCard

/-- THE SECOND FORM's CARD OF 'brazierlaw13.CodeParses'. -/
def codeParsesUptoCard : Claim7 := { stood := { row := codeParsesUptoRow, standIns := [], harness := (true, "dff076d28d72787f367933f665c774f54cf54db02e818c49b8a8dda6899c673f"), looks := true }, kinds := [], alts := [], laidByText := true, laidKinds := [.data, .data, .data, .data, .sentinel, .sentinel, .listed, .data, .pinned], laidTests := true, laidLooks := .later }
def CodeParsesUptoCardSaid : Prop := Claim7.holds Tryd.pinned (.plain (OpenSpec.upto codeParsesSpec)) codeParsesUptoCard

/-- THE SECOND FORM's CARD OF 'brazierlaw13.CodeBack'. -/
def codeBackUptoCard : Claim7 := { stood := { row := codeBackUptoRow, standIns := [], harness := (true, "dff076d28d72787f367933f665c774f54cf54db02e818c49b8a8dda6899c673f"), looks := true }, kinds := [], alts := [], laidByText := true, laidKinds := [.data, .data, .data, .data, .sentinel, .sentinel, .listed, .data, .pinned], laidTests := true, laidLooks := .later }
def CodeBackUptoCardSaid : Prop := Claim7.holds Tryd.pinned (.plain (OpenSpec.upto codeBackSpec)) codeBackUptoCard

/-- THE SECOND FORM's CARD OF 'brazierlaw5.TextLines'. -/
def textLinesUptoCard : Claim7 := { stood := { row := textLinesUptoRow, standIns := [], harness := (true, "dff076d28d72787f367933f665c774f54cf54db02e818c49b8a8dda6899c673f"), looks := true }, kinds := [], alts := [], laidByText := true, laidKinds := [.data, .data, .data, .data, .sentinel, .sentinel, .listed, .data, .pinned], laidTests := true, laidLooks := .later }
def TextLinesUptoCardSaid : Prop := Claim7.holds Tryd.pinned (.plain (OpenSpec.upto textLinesSpec)) textLinesUptoCard
end Rows
end Go.Proofs.YtkphijabhoppnaaDoor
