/- The reference's readers of a line. -/
import Derived.Test.YtkphijabhoppnaaGreatDoorALg
import Derived.Test.YtkphijabhoppnaaGreatDoorALk
namespace Go.Proofs.YtkphijabhoppnaaGreatDoor
open Go.RowKit Go.Proofs.YtkphijabhoppnaaGreatDoorW.PrintWords Go.Proofs.YtkphijabhoppnaaGreatDoorW.PrintLast Go.Proofs.YtkphijabhoppnaaGreatDoorW.PrintMore
open Go.Proofs.YtkphijabhoppnaaGreatDoor.PTextPrograms Go.Lib
set_option linter.unusedSimpArgs false
set_option linter.unusedVariables false
def ParS (line : List UInt8) (r : IR) (f : Int) : Prop := (okI r ∧ insB r = line ∧ f = 0) ∨ ((∀ i, okI i → insB i ≠ line) ∧ r = i0 0 ∧ f = 5)
theorem ParS.det {line : List UInt8} {r r' : IR} {f f' : Int} (h : ParS line r f) (h' : ParS line r' f') : r = r' ∧ f = f' := by
  rcases h with ⟨h1, h2, h3⟩ | ⟨h1, h2, h3⟩ <;> rcases h' with ⟨k1, k2, k3⟩ | ⟨k1, k2, k3⟩
  · exact ⟨insB_inj h1 k1 (h2.trans k2.symm), h3.trans k3.symm⟩
  · exact absurd h2 (k1 _ h1)
  · exact absurd k2 (h1 _ k1)
  · exact ⟨h2.trans k2.symm, h3.trans k3.symm⟩
end Go.Proofs.YtkphijabhoppnaaGreatDoor
