/- A bytecode written (brazier/code.Write). -/
import Derived.Test.YtkphijabhoppnaaDoorABb
import Derived.Test.YtkphijabhoppnaaDoorAWAll
namespace Go.Proofs.YtkphijabhoppnaaDoor
open Go.RowKit Go.Proofs.YtkphijabhoppnaaDoorW.PrintWords
set_option linter.unusedSimpArgs false
set_option linter.unusedVariables false
def inR (k : Nat) (v : Int) : Prop := if k = 1 then 0 ≤ v ∧ v ≤ 255 else if k = 2 then -128 ≤ v ∧ v ≤ 127 else -32768 ≤ v ∧ v < 32768
instance (k : Nat) (v : Int) : Decidable (inR k v) := by unfold inR; infer_instance
section
variable {P : Program} {ops : Array Oper} {rest : List Oper} {o : Oper} {a : Act} {Q : Exit → Act → World → Prop}
end
theorem cell_gr {W w3 : World} {row : Option Nat} {a : Addr} {v : Value} (hg : W.grownBy w3 row) (hne : some a.block ≠ row) (h : W.cell? a = some v) : w3.cell? a = some v :=
  (World.cell?_of_block (w := W) (hg.block a.block (block_lt_of_cell h) hne)).trans h
end Go.Proofs.YtkphijabhoppnaaDoor
namespace Go.Proofs.YtkphijabhoppnaaDoor
open Go.RowKit Go.Proofs.YtkphijabhoppnaaDoorW.PrintWords
set_option linter.unusedSimpArgs false
set_option linter.unusedVariables false
end Go.Proofs.YtkphijabhoppnaaDoor
namespace Go.Proofs.YtkphijabhoppnaaDoor
open Go.RowKit Go.Proofs.YtkphijabhoppnaaDoorW.PrintWords
set_option linter.unusedSimpArgs false
set_option linter.unusedVariables false
end Go.Proofs.YtkphijabhoppnaaDoor
