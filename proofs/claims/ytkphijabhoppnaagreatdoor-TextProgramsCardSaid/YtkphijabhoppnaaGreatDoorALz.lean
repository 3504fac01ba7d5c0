/- The fields of instructions, the program's and the reference's, as a table; their functions walked op by op. -/
import Derived.Test.YtkphijabhoppnaaGreatDoorALx
namespace Go.Proofs.YtkphijabhoppnaaGreatDoor
def fbT : List Int := [32, 0, 37, 37, 35, 35, 35, 7, 7, 7, 7, 7, 7, 15, 15, 7, 7, 7, 7, 23, 32, 48, 33, 33, 32, 2, 2, 2, 35, 35, 35, 7, 7, 3, 3, 3, 7, 32, 0, 0, 2, 2, 32]
def fbB (op : Int) (j : Nat) : Bool := (fbT.getD op.toNat 0).toNat.testBit j
end Go.Proofs.YtkphijabhoppnaaGreatDoor
namespace Go.Proofs.YtkphijabhoppnaaGreatDoor.PTextPrograms
open Go.RowKit Go.Proofs.YtkphijabhoppnaaGreatDoorW.PrintWords Go.Proofs.YtkphijabhoppnaaGreatDoorW.PrintLast Go.Proofs.YtkphijabhoppnaaGreatDoorW.PrintMore
set_option linter.unusedVariables false
set_option linter.unusedSimpArgs false
def a64_fields.f (k : Nat) (a0 : Int) : Option Int := if 0 ≤ a0 ∧ a0 ≤ 42 then some (fbT.getD a0.toNat 0) else none
theorem a64_fields.mono : ∀ a0 k, LeO (a64_fields.f k a0) (a64_fields.f (k + 1) a0) := fun _ _ => LeO.refl _
def brazierref2_fields.f (k : Nat) (a0 : Int) : Option (Bool × Bool × Bool × Bool × Bool × Bool) := if 0 ≤ a0 ∧ a0 ≤ 42 then some (fbB a0 0, fbB a0 1, fbB a0 2, fbB a0 3, fbB a0 4, fbB a0 5) else none
theorem brazierref2_fields.mono : ∀ a0 k, LeO (brazierref2_fields.f k a0) (brazierref2_fields.f (k + 1) a0) := fun _ _ => LeO.refl _
set_option maxHeartbeats 8000000 in
theorem a64_fields.calls (k : Nat) (a0 : Int) (r : Int) (w : World) (h : a64_fields.f k a0 = some r) :
    Calls Tryz.prog 23 #[.int .i64 a0] w fun e w' => e = .returned (.int .i64 r) ∧ Drawn0 w w' := by
  unfold a64_fields.f at h
  split at h
  · rename_i ho
    have h := Option.some.inj h
    subst h
    rcases op_eac ho with rfl | rfl | rfl | rfl | rfl | rfl | rfl | rfl | rfl | rfl | rfl | rfl | rfl | rfl | rfl | rfl | rfl | rfl | rfl | rfl | rfl | rfl | rfl | rfl | rfl | rfl | rfl | rfl | rfl | rfl | rfl | rfl | rfl | rfl | rfl | rfl | rfl | rfl | rfl | rfl | rfl | rfl | rfl
    all_goals
      go_enter Tryz.func23, Tryz.ntmps23
      go_wp2_with fail
      go_ret
      exact ⟨rfl, Drawn0.refl _⟩
  · cases h
set_option maxHeartbeats 8000000 in
theorem brazierref2_fields.calls (k : Nat) (a0 : Int) (r1 : Bool) (r2 : Bool) (r3 : Bool) (r4 : Bool) (r5 : Bool) (r6 : Bool) (w : World) (h : brazierref2_fields.f k a0 = some (r1, r2, r3, r4, r5, r6)) :
    Calls Tryz.prog 70 #[.int .i64 a0] w fun e w' => e = .returned (.tuple #[.bool r1, .bool r2, .bool r3, .bool r4, .bool r5, .bool r6]) ∧ Drawn0 w w' := by
  unfold brazierref2_fields.f at h
  split at h
  · rename_i ho
    have h := Option.some.inj h
    simp only [Prod.mk.injEq] at h
    obtain ⟨rfl, rfl, rfl, rfl, rfl, rfl⟩ := h
    rcases op_eac ho with rfl | rfl | rfl | rfl | rfl | rfl | rfl | rfl | rfl | rfl | rfl | rfl | rfl | rfl | rfl | rfl | rfl | rfl | rfl | rfl | rfl | rfl | rfl | rfl | rfl | rfl | rfl | rfl | rfl | rfl | rfl | rfl | rfl | rfl | rfl | rfl | rfl | rfl | rfl | rfl | rfl | rfl | rfl
    all_goals
      go_enter Tryz.func70, Tryz.ntmps70
      go_wp2_with fail
      refine bodyPost_ret (results_list (rs := [.tmp 2, .tmp 3, .tmp 4, .tmp 5, .tmp 6, .tmp 7]) rfl (by simp) (.tmp (.tmp (.tmp (.tmp (.tmp (.tmp .nil))))))) rfl ?_
      exact ⟨rfl, Drawn0.refl _⟩
  · cases h
end Go.Proofs.YtkphijabhoppnaaGreatDoor.PTextPrograms
