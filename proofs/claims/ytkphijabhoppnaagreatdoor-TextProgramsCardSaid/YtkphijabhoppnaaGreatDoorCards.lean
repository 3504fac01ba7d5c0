/-
  DERIVED. GIVEN WITH THE SEED: THE CARDS: each row of YtkphijabhoppnaaGreatDoorRows.lean that lists a variable, with what it lists TIED to the program's text (the seventh form; the later family's looks); each row that meets fmt, with fmt's text TOLD by the authors' own Lean function (tested against real Go, not proved from fmt's source: count such statements apart). THE CARD IS WHAT COUNTS. Prove the row's statement (the work); the ties are given (YtkphijabhoppnaaGreatDoorTie.lean); close each card by the builder's one call (the guide's Derived/Test/ToyasCard.lean, 'card_holds'). Laid BY PROGRAM, IN A SANDBOX (cutbox-door.mjs). By AI agents, Wed Nov 11 2026. No macro, syntax, notation, axiom, sorry.
-/
import Derived.Test.YtkphijabhoppnaaGreatDoorRows
import GoSem.ClaimSeven
namespace Go.Proofs.YtkphijabhoppnaaGreatDoor
namespace Rows

/-- THE TIED CARD OF 'brazierlaw5.TextPrograms'. -/
def textProgramsCard : Claim7 := { stood := { row := textProgramsRow, standIns := [], harness := (true, "52b478898aa29a4af6b20ebbd358bee160f1d6c19ad1f265f61166a02341bcab"), looks := true }, kinds := [], alts := [], laidByText := true, laidKinds := [.data, .data, .data, .data, .sentinel, .sentinel, .listed, .data, .pinned], laidTests := true, laidLooks := .later }
def TextProgramsCardSaid : Prop := Claim7.holds Tryz.pinned (.plain (OpenSpec.ofChange textProgramsSpec)) textProgramsCard

/-- THE TIED CARD OF 'brazierlaw5.TextBack'. -/
def textBackCard : Claim7 := { stood := { row := textBackRow, standIns := [], harness := (true, "52b478898aa29a4af6b20ebbd358bee160f1d6c19ad1f265f61166a02341bcab"), looks := true }, kinds := [], alts := [], laidByText := true, laidKinds := [.data, .data, .data, .data, .sentinel, .sentinel, .listed, .data, .pinned], laidTests := true, laidLooks := .later }
def TextBackCardSaid : Prop := Claim7.holds Tryz.pinned (.plain (OpenSpec.ofChange textBackSpec)) textBackCard

/-- THE SECOND FORM's CARD OF 'brazierlaw5.TextPrograms'. -/
def textProgramsUptoCard : Claim7 := { stood := { row := textProgramsUptoRow, standIns := [], harness := (true, "52b478898aa29a4af6b20ebbd358bee160f1d6c19ad1f265f61166a02341bcab"), looks := true }, kinds := [], alts := [], laidByText := true, laidKinds := [.data, .data, .data, .data, .sentinel, .sentinel, .listed, .data, .pinned], laidTests := true, laidLooks := .later }
def TextProgramsUptoCardSaid : Prop := Claim7.holds Tryz.pinned (.plain (OpenSpec.upto textProgramsSpec)) textProgramsUptoCard

/-- THE SECOND FORM's CARD OF 'brazierlaw5.TextBack'. -/
def textBackUptoCard : Claim7 := { stood := { row := textBackUptoRow, standIns := [], harness := (true, "52b478898aa29a4af6b20ebbd358bee160f1d6c19ad1f265f61166a02341bcab"), looks := true }, kinds := [], alts := [], laidByText := true, laidKinds := [.data, .data, .data, .data, .sentinel, .sentinel, .listed, .data, .pinned], laidTests := true, laidLooks := .later }
def TextBackUptoCardSaid : Prop := Claim7.holds Tryz.pinned (.plain (OpenSpec.upto textBackSpec)) textBackUptoCard
end Rows
end Go.Proofs.YtkphijabhoppnaaGreatDoor
