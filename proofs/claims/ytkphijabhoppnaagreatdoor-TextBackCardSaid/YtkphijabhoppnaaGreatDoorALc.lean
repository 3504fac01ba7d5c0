/- The reference's number as text. -/
import Derived.Lib.ItoaNum
import Derived.Test.YtkphijabhoppnaaGreatDoorALb
namespace Go.Proofs.YtkphijabhoppnaaGreatDoor
open Go.RowKit Go.Proofs.YtkphijabhoppnaaGreatDoorW.PrintWords Go.Proofs.YtkphijabhoppnaaGreatDoorW.PrintLast Go.Proofs.YtkphijabhoppnaaGreatDoorW.PrintMore
open Go.Proofs.YtkphijabhoppnaaGreatDoor.PTextPrograms Go.Lib
set_option linter.unusedSimpArgs false
set_option linter.unusedVariables false
theorem dec_len (n : Nat) : ∀ k, n < 10 ^ (k + 1) → (decDigits n).length ≤ k + 1 := by
  induction n using Nat.strongRecOn with
  | ind n ih =>
    intro k h
    rw [decDigits]
    by_cases h1 : n < 10
    · rw [dif_pos h1]; simp
    · rw [dif_neg h1]
      cases k with
      | zero => omega
      | succ k =>
        have := ih (n / 10) (by omega) k (by rw [Nat.pow_succ] at h; omega)
        simp only [List.length_append, List.length_cons, List.length_nil]
        omega
end Go.Proofs.YtkphijabhoppnaaGreatDoor
