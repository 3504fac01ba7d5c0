/- A register's word. -/
import Derived.Test.YtkphijabhoppnaaGreatDoorAShelf
import Derived.Test.YtkphijabhoppnaaGreatDoorALf
namespace Go.Proofs.YtkphijabhoppnaaGreatDoor
open Go.RowKit Go.Proofs.YtkphijabhoppnaaGreatDoorW.PrintWords Go.Lib
set_option linter.unusedSimpArgs false
set_option linter.unusedVariables false
theorem register_calls (n : Nat) (h : n < 33) (w : World) :
    Calls Tryz.prog 31 #[.int .i64 n] w fun e w' => e = .returned (.string ⟨(rgT n).toArray⟩) ∧ w' = w := by
  have hd := dec_len n 1 (by omega)
  by_cases h1 : n = 31
  · subst h1
    go_enter Tryz.func31, Tryz.ntmps31
    go_wp2
    go_ret
    exact ⟨rfl, rfl⟩
  by_cases h2 : n = 32
  · subst h2
    go_enter Tryz.func31, Tryz.ntmps31
    go_wp2
    go_ret
    exact ⟨rfl, rfl⟩
  have b1 : ((n : Int) == 31) = false := by simp; omega
  have b2 : ((n : Int) == 32) = false := by simp; omega
  have hI := Any.hidJ (fun w => Tryz.strconv_Itoa_small n (by omega) w)
  go_enter Tryz.func31, Tryz.ntmps31
  go_wp2_with (first | (go_at_call 33; refine (hI.out _).mono ?_; rintro e w1 ⟨rfl, rfl⟩) | go_in)
  go_ret
  refine ⟨?_, rfl⟩
  rw [rgT, if_neg h1, if_neg h2]
  congr 1
end Go.Proofs.YtkphijabhoppnaaGreatDoor
