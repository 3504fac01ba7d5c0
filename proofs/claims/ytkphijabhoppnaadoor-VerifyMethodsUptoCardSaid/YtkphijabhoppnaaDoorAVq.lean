/- Another Stack of a method: what the walk comes to, in plain terms. -/
import Derived.Test.YtkphijabhoppnaaDoorAVp
import Derived.Test.YtkphijabhoppnaaDoorAVs
namespace Go.Proofs.YtkphijabhoppnaaDoor
open Go.RowKit
set_option linter.unusedSimpArgs false
set_option linter.unusedVariables false
section
variable {p : Pg} {m : Meth} {k : Nat} {s S : Int}
end
theorem check_sizes {p : Pg} (h : checkS p = 0) : p.methods.length ≠ 0 ∧ (∀ m ∈ p.methods, sizesS m = 0) ∧ (p.pool.length ≤ 200 ∧ p.classes.length ≤ 50 ∧ p.methods.length ≤ 100) := by
  unfold checkS at h
  by_cases h1 : 200 < p.pool.length ∨ 50 < p.classes.length ∨ 100 < p.methods.length ∨ wideS p = true
  · rw [if_pos h1] at h; simp at h
  · rw [if_neg h1] at h
    by_cases h2 : p.methods.length = 0
    · rw [if_pos h2] at h; simp at h
    · rw [if_neg h2] at h
      by_cases h3 : firstS p.methods ≠ 0
      · rw [if_pos h3] at h; exact absurd h h3
      · exact ⟨h2, (first_zero _).1 (Decidable.not_not.1 h3), by omega⟩
end Go.Proofs.YtkphijabhoppnaaDoor
