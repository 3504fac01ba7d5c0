/- The parts of instructions, the program's and the reference's, as tables; their functions walked op by op. -/
import Derived.Test.YtkphijabhoppnaaGreatDoorAPTextProgramsx0
namespace Go.Proofs.YtkphijabhoppnaaGreatDoor
def pTT : List (List UInt8) := [[73], [], [68, 73, 109], [68, 73, 109], [68, 78, 73], [68, 78, 73], [68, 78, 73], [68, 78, 77], [68, 78, 77], [68, 78, 77], [68, 78, 77], [68, 78, 77], [68, 78, 77], [68, 78, 77, 65], [68, 78, 77, 65], [68, 78, 77], [68, 78, 77], [68, 78, 77], [68, 78, 77], [68, 78, 77, 67], [73], [67, 73], [68, 73], [68, 73], [73], [78], [78], [78], [68, 78, 73], [68, 78, 73], [68, 78, 73], [68, 78, 77], [68, 78, 77], [68, 78], [68, 78], [68, 78], [68, 77, 78], [73], [], [], [78], [78], [73]]
def pT (op : Int) : List UInt8 := pTT.getD op.toNat []
def pRT : List (List UInt8) := [[105], [], [100, 105, 107], [100, 105, 107], [68, 78, 105], [68, 78, 105], [100, 78, 105], [100, 110, 109], [100, 110, 109], [100, 110, 109], [100, 110, 109], [100, 110, 109], [100, 110, 109], [100, 110, 109, 97], [100, 110, 109, 97], [100, 110, 109], [100, 110, 109], [100, 110, 109], [100, 110, 109], [100, 110, 109, 99], [105], [99, 105], [100, 105], [100, 105], [105], [110], [110], [110], [100, 78, 105], [100, 78, 105], [100, 78, 105], [100, 78, 109], [100, 78, 109], [100, 78], [100, 78], [100, 78], [100, 109, 78], [105], [], [], [110], [110], [105]]
def pR (op : Int) : List UInt8 := pRT.getD op.toNat []
theorem op_eac {op : Int} (h : 0 ≤ op ∧ op ≤ 42) : op = 0 ∨ op = 1 ∨ op = 2 ∨ op = 3 ∨ op = 4 ∨ op = 5 ∨ op = 6 ∨ op = 7 ∨ op = 8 ∨ op = 9 ∨ op = 10 ∨ op = 11 ∨ op = 12 ∨ op = 13 ∨ op = 14 ∨ op = 15 ∨ op = 16 ∨ op = 17 ∨ op = 18 ∨ op = 19 ∨ op = 20 ∨ op = 21 ∨ op = 22 ∨ op = 23 ∨ op = 24 ∨ op = 25 ∨ op = 26 ∨ op = 27 ∨ op = 28 ∨ op = 29 ∨ op = 30 ∨ op = 31 ∨ op = 32 ∨ op = 33 ∨ op = 34 ∨ op = 35 ∨ op = 36 ∨ op = 37 ∨ op = 38 ∨ op = 39 ∨ op = 40 ∨ op = 41 ∨ op = 42 := by omega
end Go.Proofs.YtkphijabhoppnaaGreatDoor
namespace Go.Proofs.YtkphijabhoppnaaGreatDoor.PTextPrograms
open Go.RowKit Go.Proofs.YtkphijabhoppnaaGreatDoorW.PrintWords Go.Proofs.YtkphijabhoppnaaGreatDoorW.PrintLast Go.Proofs.YtkphijabhoppnaaGreatDoorW.PrintMore
set_option linter.unusedVariables false
set_option linter.unusedSimpArgs false
def text_parts.f (k : Nat) (a0 : Int) : Option ByteArray := if 0 ≤ a0 ∧ a0 ≤ 42 then some ⟨(pT a0).toArray⟩ else none
theorem text_parts.mono : ∀ a0 k, LeO (text_parts.f k a0) (text_parts.f (k + 1) a0) := fun _ _ => LeO.refl _
def brazierref5_parts.f (k : Nat) (a0 : Int) : Option ByteArray := if 0 ≤ a0 ∧ a0 ≤ 42 then some ⟨(pR a0).toArray⟩ else none
theorem brazierref5_parts.mono : ∀ a0 k, LeO (brazierref5_parts.f k a0) (brazierref5_parts.f (k + 1) a0) := fun _ _ => LeO.refl _
set_option maxHeartbeats 8000000 in
theorem text_parts.calls (k : Nat) (a0 : Int) (r : ByteArray) (w : World) (h : text_parts.f k a0 = some r) :
    Calls Tryz.prog 28 #[.int .i64 a0] w fun e w' => e = .returned (.string r) ∧ Drawn0 w w' := by
  unfold text_parts.f at h
  split at h
  · rename_i ho
    have h := Option.some.inj h
    subst h
    rcases op_eac ho with rfl | rfl | rfl | rfl | rfl | rfl | rfl | rfl | rfl | rfl | rfl | rfl | rfl | rfl | rfl | rfl | rfl | rfl | rfl | rfl | rfl | rfl | rfl | rfl | rfl | rfl | rfl | rfl | rfl | rfl | rfl | rfl | rfl | rfl | rfl | rfl | rfl | rfl | rfl | rfl | rfl | rfl | rfl
    all_goals
      go_enter Tryz.func28, Tryz.ntmps28
      go_wp2_with fail
      go_ret
      exact ⟨rfl, Drawn0.refl _⟩
  · cases h
set_option maxHeartbeats 8000000 in
theorem brazierref5_parts.calls (k : Nat) (a0 : Int) (r : ByteArray) (w : World) (h : brazierref5_parts.f k a0 = some r) :
    Calls Tryz.prog 47 #[.int .i64 a0] w fun e w' => e = .returned (.string r) ∧ Drawn0 w w' := by
  unfold brazierref5_parts.f at h
  split at h
  · rename_i ho
    have h := Option.some.inj h
    subst h
    rcases op_eac ho with rfl | rfl | rfl | rfl | rfl | rfl | rfl | rfl | rfl | rfl | rfl | rfl | rfl | rfl | rfl | rfl | rfl | rfl | rfl | rfl | rfl | rfl | rfl | rfl | rfl | rfl | rfl | rfl | rfl | rfl | rfl | rfl | rfl | rfl | rfl | rfl | rfl | rfl | rfl | rfl | rfl | rfl | rfl
    all_goals
      go_enter Tryz.func47, Tryz.ntmps47
      go_wp2_with fail
      go_ret
      exact ⟨rfl, Drawn0.refl _⟩
  · cases h
end Go.Proofs.YtkphijabhoppnaaGreatDoor.PTextPrograms
