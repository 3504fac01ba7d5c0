/- Numbers as text: digits spelled and read. -/
import Derived.Lib.ItoaNum
import Derived.Lib.AtoiAll
import Derived.Test.YtkphijabhoppnaaGreatDoorALd
namespace Go.Proofs.YtkphijabhoppnaaGreatDoor
open Go.Lib
set_option linter.unusedSimpArgs false
set_option linter.unusedVariables false
def isDig (c : UInt8) : Prop := 48 ≤ c.toNat ∧ c.toNat ≤ 57
instance (c : UInt8) : Decidable (isDig c) := by unfold isDig; infer_instance
def valD (acc : Nat) : List UInt8 → Option Nat
  | [] => some acc
  | c :: r => if isDig c then valD (acc * 10 + (c.toNat - 48)) r else none
def dropMinus : List UInt8 → List UInt8
  | [] => []
  | c :: d => if c = 45 then d else c :: d
theorem valD_snoc (l : List UInt8) (c : UInt8) : ∀ acc, valD acc (l ++ [c]) = (valD acc l).bind fun a => if isDig c then some (a * 10 + (c.toNat - 48)) else none := by
  induction l with
  | nil => intro acc; simp [valD]
  | cons x xs ih =>
    intro acc
    simp only [List.cons_append, valD]
    split
    · exact ih _
    · rfl
theorem dig_of (n : Nat) (h : n < 10) : isDig (UInt8.ofNat (48 + n)) ∧ (UInt8.ofNat (48 + n)).toNat = 48 + n := by
  have : (UInt8.ofNat (48 + n)).toNat = 48 + n := by simp [UInt8.toNat_ofNat']; omega
  refine ⟨?_, this⟩
  unfold isDig
  omega
theorem decDigits_ne (n : Nat) : decDigits n ≠ [] := by
  rw [decDigits]
  split <;> simp
theorem head_app (l m : List UInt8) (h : l ≠ []) : (l ++ m).head? = l.head? := by
  cases l with
  | nil => exact absurd rfl h
  | cons => rfl
theorem valD_dec (n : Nat) : valD 0 (decDigits n) = some n := by
  induction n using Nat.strongRecOn with
  | ind n ih =>
    rw [decDigits]
    split
    · rename_i h
      obtain ⟨h1, h2⟩ := dig_of n h
      rw [valD, if_pos h1, h2, valD]
      congr 1
      omega
    · rename_i h
      obtain ⟨h1, h2⟩ := dig_of (n % 10) (by omega)
      rw [valD_snoc, ih (n / 10) (by omega)]
      simp only [Option.bind_some, h1, if_true, h2]
      congr 1
      omega
theorem head_dec (n : Nat) : ∀ h, (decDigits n).head? = some h → isDig h ∧ (1 < (decDigits n).length → h ≠ 48) := by
  induction n using Nat.strongRecOn with
  | ind n ih =>
    intro h
    rw [decDigits]
    split
    · rename_i hn
      intro e
      have e' := Option.some.inj e
      subst e'
      exact ⟨(dig_of n hn).1, fun h => absurd h (by simp)⟩
    · rename_i hn
      intro e
      rw [head_app _ _ (decDigits_ne _)] at e
      have hi := ih (n / 10) (by omega) h e
      refine ⟨hi.1, fun _ => ?_⟩
      by_cases hl : 1 < (decDigits (n / 10)).length
      · exact hi.2 hl
      · intro e48
        subst e48
        have hne := decDigits_ne (n / 10)
        have hv := valD_dec (n / 10)
        cases hd : decDigits (n / 10) with
        | nil => exact hne hd
        | cons x xs =>
          rw [hd] at e hl hv
          simp at e
          cases xs with
          | cons => simp at hl
          | nil =>
            subst e
            simp [valD, isDig] at hv
            omega
theorem parse_val : ∀ (d : List UInt8) (acc k : Nat), acc < 10 ^ k → k + d.length ≤ 18 → ∀ n, parseUint10 acc d = .ok n ↔ valD acc d = some n := by
  intro d
  induction d with
  | nil => intro acc k h1 h2 n; simp [parseUint10, valD]
  | cons c r ih =>
    intro acc k h1 h2 n
    simp only [List.length_cons] at h2
    simp only [parseUint10, valD]
    have hk : 10 ^ k ≤ 10 ^ 17 := Nat.pow_le_pow_right (by omega) (by omega)
    by_cases hc : isDig c
    · have hc' : 48 ≤ c.toNat ∧ c.toNat ≤ 57 := hc
      rw [if_pos hc', if_neg (by omega), if_neg (by omega), if_pos hc]
      exact ih _ (k + 1) (by rw [Nat.pow_succ]; omega) (by omega) n
    · have hc' : ¬ (48 ≤ c.toNat ∧ c.toNat ≤ 57) := hc
      rw [if_neg hc', if_neg hc]
      constructor
      · intro h; cases h
      · intro h; cases h
end Go.Proofs.YtkphijabhoppnaaGreatDoor
namespace Go.Proofs.YtkphijabhoppnaaGreatDoor
open Go.RowKit
set_option linter.unusedSimpArgs false
set_option linter.unusedVariables false
end Go.Proofs.YtkphijabhoppnaaGreatDoor
