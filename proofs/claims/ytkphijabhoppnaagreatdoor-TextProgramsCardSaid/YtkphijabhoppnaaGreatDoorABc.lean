/- A bytecode written (brazier/code.Write). -/
import Derived.Test.YtkphijabhoppnaaGreatDoorABb
import Derived.Test.YtkphijabhoppnaaGreatDoorAWAll
namespace Go.Proofs.YtkphijabhoppnaaGreatDoor
open Go.RowKit Go.Proofs.YtkphijabhoppnaaGreatDoorW.PrintWords
set_option linter.unusedSimpArgs false
set_option linter.unusedVariables false
def inR (k : Nat) (v : Int) : Prop := if k = 1 then 0 ≤ v ∧ v ≤ 255 else if k = 2 then -128 ≤ v ∧ v ≤ 127 else -32768 ≤ v ∧ v < 32768
instance (k : Nat) (v : Int) : Decidable (inR k v) := by unfold inR; infer_instance
section
variable {P : Program} {ops : Array Oper} {rest : List Oper} {o : Oper} {a : Act} {Q : Exit → Act → World → Prop}
end
end Go.Proofs.YtkphijabhoppnaaGreatDoor
namespace Go.Proofs.YtkphijabhoppnaaGreatDoor
open Go.RowKit Go.Proofs.YtkphijabhoppnaaGreatDoorW.PrintWords
set_option linter.unusedSimpArgs false
set_option linter.unusedVariables false
end Go.Proofs.YtkphijabhoppnaaGreatDoor
namespace Go.Proofs.YtkphijabhoppnaaGreatDoor
open Go.RowKit Go.Proofs.YtkphijabhoppnaaGreatDoorW.PrintWords
set_option linter.unusedSimpArgs false
set_option linter.unusedVariables false
end Go.Proofs.YtkphijabhoppnaaGreatDoor
