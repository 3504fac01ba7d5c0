/- Names and parts of instructions, as tables. -/
import Derived.Test.YtkphijabhoppnaaGreatDoorALc
namespace Go.Proofs.YtkphijabhoppnaaGreatDoor
open Go.RowKit Go.Proofs.YtkphijabhoppnaaGreatDoorW.PrintWords Go.Proofs.YtkphijabhoppnaaGreatDoorW.PrintLast Go.Proofs.YtkphijabhoppnaaGreatDoorW.PrintMore
open Go.Proofs.YtkphijabhoppnaaGreatDoor.PTextPrograms Go.Lib
set_option linter.unusedSimpArgs false
set_option linter.unusedVariables false
def nmT : List (List UInt8) := [[117, 100, 102], [110, 111, 112], [109, 111, 118, 122], [109, 111, 118, 107], [97, 100, 100, 105], [115, 117, 98, 105], [115, 117, 98, 115, 105], [97, 100, 100], [115, 117, 98], [115, 117, 98, 115], [97, 110, 100], [111, 114, 114], [101, 111, 114], [109, 97, 100, 100], [109, 115, 117, 98], [115, 100, 105, 118], [108, 115, 108, 118], [108, 115, 114, 118], [97, 115, 114, 118], [99, 115, 105, 110, 99], [98], [98, 46], [99, 98, 122], [99, 98, 110, 122], [98, 108], [98, 114], [98, 108, 114], [114, 101, 116], [108, 100, 114], [115, 116, 114], [108, 100, 114, 98], [108, 100, 114, 114], [115, 116, 114, 114], [108, 100, 97, 114], [115, 116, 108, 114], [108, 100, 120, 114], [115, 116, 120, 114], [100, 109, 98], [100, 115, 98], [105, 115, 98], [100, 99], [105, 99], [115, 118, 99]]
def nm5 (op : Int) : List UInt8 := nmT.getD op.toNat []
theorem name_op (op : Int) (h : 0 ≤ op ∧ op ≤ 42) : brazierref2_Name.f op = some ⟨(nm5 op).toArray⟩ := by
  rcases op_each h with rfl | rfl | rfl | rfl | rfl | rfl | rfl | rfl | rfl | rfl | rfl | rfl | rfl | rfl | rfl | rfl | rfl | rfl | rfl | rfl | rfl | rfl | rfl | rfl | rfl | rfl | rfl | rfl | rfl | rfl | rfl | rfl | rfl | rfl | rfl | rfl | rfl | rfl | rfl | rfl | rfl | rfl | rfl <;> kernel_rfl
theorem pT_op (op : Int) (h : 0 ≤ op ∧ op ≤ 42) (k : Nat) : text_parts.f (20 + k) op = some ⟨(pT op).toArray⟩ := by
  rw [text_parts.f, if_pos h]
theorem pR_op (op : Int) (h : 0 ≤ op ∧ op ≤ 42) (k : Nat) : brazierref5_parts.f (20 + k) op = some ⟨(pR op).toArray⟩ := by
  rw [brazierref5_parts.f, if_pos h]
theorem nm_inj : ∀ a : Nat, a < 43 → ∀ b : Nat, b < 43 → nmT.getD a [] = nmT.getD b [] → a = b := by decide +kernel
theorem nm_facts : ∀ a : Nat, a < 43 → (nmT.getD a [] ≠ [] ∧ (nmT.getD a []).length ≤ 5 ∧ ¬ (32 : UInt8) ∈ nmT.getD a []) := by decide +kernel
end Go.Proofs.YtkphijabhoppnaaGreatDoor
