/- The reference's number as text. -/
import Derived.Lib.ItoaNum
import Derived.Test.YtkphijabhoppnaaGreatDoorALb
namespace Go.Proofs.YtkphijabhoppnaaGreatDoor
open Go.RowKit Go.Proofs.YtkphijabhoppnaaGreatDoorW.PrintWords Go.Proofs.YtkphijabhoppnaaGreatDoorW.PrintLast Go.Proofs.YtkphijabhoppnaaGreatDoorW.PrintMore
open Go.Proofs.YtkphijabhoppnaaGreatDoor.PTextPrograms Go.Lib
set_option linter.unusedSimpArgs false
set_option linter.unusedVariables false
theorem one_digit (n : Nat) : (strOfNums [(wrap64 (48 + (((n % 10 : Nat) : Int)))) % 256]) = ⟨#[UInt8.ofNat (48 + n % 10)]⟩ := by
  have h : n % 10 < 10 := Nat.mod_lt _ (by omega)
  have H : ∀ d : Nat, d < 10 → (strOfNums [(wrap64 (48 + ((d : Nat) : Int))) % 256]) = ⟨#[UInt8.ofNat (48 + d)]⟩ := by decide +kernel
  exact H _ h
theorem tmod_nat (n : Nat) : Int.tmod (n : Int) 10 = ((n % 10 : Nat) : Int) := by
  rw [Int.tmod_eq_emod_of_nonneg (by omega)]; omega
theorem tdiv_nat (n : Nat) : Int.tdiv (n : Int) 10 = ((n / 10 : Nat) : Int) := by
  rw [Int.tdiv_eq_ediv_of_nonneg (by omega)]; omega
theorem dec_len (n : Nat) : ∀ k, n < 10 ^ (k + 1) → (decDigits n).length ≤ k + 1 := by
  induction n using Nat.strongRecOn with
  | ind n ih =>
    intro k h
    rw [decDigits]
    by_cases h1 : n < 10
    · rw [dif_pos h1]; simp
    · rw [dif_neg h1]
      cases k with
      | zero => omega
      | succ k =>
        have := ih (n / 10) (by omega) k (by rw [Nat.pow_succ] at h; omega)
        simp only [List.length_append, List.length_cons, List.length_nil]
        omega
theorem dec_l0 (k : Nat) : ∀ (n : Nat) (s : List UInt8), n < 10 ^ (k + 1) → s.length + k ≤ 1000 → n < 9000000000000000000 →
    brazierref5_decimal.l0 (k + 1) (n : Int) ⟨s.toArray⟩ = some ⟨((if n < 10 then [] else decDigits (n / 10)) ++ s).toArray⟩ := by
  induction k with
  | zero =>
    intro n s h hs hb
    rw [brazierref5_decimal.l0, if_neg (by omega), if_pos (by omega)]
    rfl
  | succ k ih =>
    intro n s h hs hb
    by_cases h1 : n < 10
    · rw [brazierref5_decimal.l0, if_neg (by omega), if_pos h1]
      rfl
    · have hw : wrap64 (((n / 10 : Nat) : Int)) = ((n / 10 : Nat) : Int) := by unfold wrap64; omega
      rw [brazierref5_decimal.l0, if_pos (by omega), if_neg h1, tdiv_nat, hw, tmod_nat]
      simp only [Option.bind]
      rw [one_digit]
      have hsz : ((⟨#[UInt8.ofNat (48 + n / 10 % 10)]⟩ : ByteArray) ++ (⟨s.toArray⟩ : ByteArray)) = ⟨(UInt8.ofNat (48 + n / 10 % 10) :: s).toArray⟩ := by
        apply ByteArray.ext; simp
      rw [if_pos (by show 1 + s.toArray.size ≤ _; simp; omega), hsz, ih (n / 10) _ (by rw [Nat.pow_succ] at h; omega) (by simp; omega) (by omega)]
      congr 1
      congr 1
      rw [decDigits.eq_def (n / 10)]
      by_cases h2 : n / 10 < 10
      · rw [if_pos h2, dif_pos h2, show n / 10 % 10 = n / 10 by omega]; rfl
      · rw [if_neg h2, dif_neg h2]; simp
theorem dec_pos (n : Nat) (h : n < 10000000000) (k : Nat) : brazierref5_decimal.f (k + 12) (n : Int) = some ⟨(decDigits n).toArray⟩ := by
  have e : brazierref5_decimal.f 12 (n : Int) = some ⟨(decDigits n).toArray⟩ := by
    rw [brazierref5_decimal.f, if_neg (by omega), tmod_nat, one_digit]
    have := dec_l0 10 n [UInt8.ofNat (48 + n % 10)] (by omega) (by simp) (by omega)
    rw [this]
    congr 2
    rw [decDigits.eq_def n]
    by_cases h2 : n < 10
    · rw [if_pos h2, dif_pos h2, show n % 10 = n by omega]; rfl
    · rw [if_neg h2, dif_neg h2]
  rw [Nat.add_comm]
  exact up (f := fun k => brazierref5_decimal.f k (n : Int)) (brazierref5_decimal.mono _) e k
theorem dec_any (v : Int) (h1 : -10000000000 < v) (h2 : v < 10000000000) (k : Nat) : brazierref5_decimal.f (k + 13) v = some ⟨(itoa v).toArray⟩ := by
  unfold itoa
  by_cases h : v < 0
  · have hw : wrap64 (-v) = ((v.natAbs : Nat) : Int) := by unfold wrap64; omega
    have hl := dec_len v.natAbs 9 (by omega)
    rw [brazierref5_decimal.f, if_pos h, hw, dec_pos _ (by omega), if_pos h]
    simp only [Option.bind]
    rw [if_pos (by show 1 + (decDigits v.natAbs).toArray.size ≤ _; simp; omega)]
    congr 1
  · rw [if_neg h, show k + 13 = (k + 1) + 12 by omega]
    have := dec_pos v.toNat (by omega) (k + 1)
    rw [show ((v.toNat : Nat) : Int) = v by omega] at this
    exact this
end Go.Proofs.YtkphijabhoppnaaGreatDoor
