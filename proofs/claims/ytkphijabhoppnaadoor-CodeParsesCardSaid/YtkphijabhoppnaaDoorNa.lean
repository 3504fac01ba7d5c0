/- Numbers of at most six digits as text: what Atoi and Itoa make of them; no program in sight. -/
import Derived.Lib.ItoaNum
import Derived.Lib.AtoiAll
namespace Go.Proofs.YtkphijabhoppnaaDoor
open Go.Lib
set_option linter.unusedSimpArgs false
set_option linter.unusedVariables false

def isDig (c : UInt8) : Prop := 48 ≤ c.toNat ∧ c.toNat ≤ 57
instance (c : UInt8) : Decidable (isDig c) := by unfold isDig; infer_instance
/-- What digits spell behind acc. -/
def valD (acc : Nat) : List UInt8 → Option Nat
  | [] => some acc
  | c :: r => if isDig c then valD (acc * 10 + (c.toNat - 48)) r else none
def numD (d : List UInt8) : Option Nat := if d = [] ∨ 6 < d.length ∨ (1 < d.length ∧ d.head? = some 48) then none else valD 0 d
/-- A number of at most six digits, as the document has it. -/
def numP : List UInt8 → Option Int
  | [] => none
  | c :: d => if c = 45 then (if d = [48] then none else (numD d).map fun (n : Nat) => -(n : Int)) else (numD (c :: d)).map fun (n : Nat) => (n : Int)
def dropMinus : List UInt8 → List UInt8
  | [] => []
  | c :: d => if c = 45 then d else c :: d

theorem valD_snoc (l : List UInt8) (c : UInt8) : ∀ acc, valD acc (l ++ [c]) = (valD acc l).bind fun a => if isDig c then some (a * 10 + (c.toNat - 48)) else none := by
  induction l with
  | nil => intro acc; simp [valD]
  | cons x xs ih =>
    intro acc
    simp only [List.cons_append, valD]
    split
    · exact ih _
    · rfl
theorem dig_of (n : Nat) (h : n < 10) : isDig (UInt8.ofNat (48 + n)) ∧ (UInt8.ofNat (48 + n)).toNat = 48 + n := by
  have : (UInt8.ofNat (48 + n)).toNat = 48 + n := by simp [UInt8.toNat_ofNat']; omega
  refine ⟨?_, this⟩
  unfold isDig
  omega
theorem of_dig (c : UInt8) (h : isDig c) : UInt8.ofNat (48 + (c.toNat - 48)) = c := by
  unfold isDig at h
  rw [show 48 + (c.toNat - 48) = c.toNat by omega]
  simp
theorem decDigits_ne (n : Nat) : decDigits n ≠ [] := by
  rw [decDigits]
  split <;> simp
theorem head_app (l m : List UInt8) (h : l ≠ []) : (l ++ m).head? = l.head? := by
  cases l with
  | nil => exact absurd rfl h
  | cons => rfl
theorem valD_dec (n : Nat) : valD 0 (decDigits n) = some n := by
  induction n using Nat.strongRecOn with
  | ind n ih =>
    rw [decDigits]
    split
    · rename_i h
      obtain ⟨h1, h2⟩ := dig_of n h
      rw [valD, if_pos h1, h2, valD]
      congr 1
      omega
    · rename_i h
      obtain ⟨h1, h2⟩ := dig_of (n % 10) (by omega)
      rw [valD_snoc, ih (n / 10) (by omega)]
      simp only [Option.bind_some, h1, if_true, h2]
      congr 1
      omega
theorem head_dec (n : Nat) : ∀ h, (decDigits n).head? = some h → isDig h ∧ (1 < (decDigits n).length → h ≠ 48) := by
  induction n using Nat.strongRecOn with
  | ind n ih =>
    intro h
    rw [decDigits]
    split
    · rename_i hn
      intro e
      have e' := Option.some.inj e
      subst e'
      exact ⟨(dig_of n hn).1, fun h => absurd h (by simp)⟩
    · rename_i hn
      intro e
      rw [head_app _ _ (decDigits_ne _)] at e
      have hi := ih (n / 10) (by omega) h e
      refine ⟨hi.1, fun _ => ?_⟩
      by_cases hl : 1 < (decDigits (n / 10)).length
      · exact hi.2 hl
      · intro e48
        subst e48
        have hne := decDigits_ne (n / 10)
        have hv := valD_dec (n / 10)
        cases hd : decDigits (n / 10) with
        | nil => exact hne hd
        | cons x xs =>
          rw [hd] at e hl hv
          simp at e
          cases xs with
          | cons => simp at hl
          | nil =>
            subst e
            simp [valD, isDig] at hv
            omega
theorem dec_val : ∀ (k : Nat) (d : List UInt8) (n : Nat), d.length = k → d ≠ [] → (1 < d.length → d.head? ≠ some 48) → valD 0 d = some n → decDigits n = d := by
  intro k
  induction k with
  | zero => intro d n h1 h2; exact absurd (List.eq_nil_of_length_eq_zero h1) h2
  | succ k ih =>
    intro d n h1 h2 h3 h4
    obtain ⟨d', c, rfl⟩ : ∃ d' c, d = d' ++ [c] := ⟨d.dropLast, d.getLast h2, (List.dropLast_concat_getLast h2).symm⟩
    rw [valD_snoc] at h4
    obtain ⟨a, ha, h4⟩ := Option.bind_eq_some_iff.1 h4
    split at h4
    · rename_i hc
      have hn : n = a * 10 + (c.toNat - 48) := (Option.some.inj h4).symm
      have hc2 : c.toNat - 48 < 10 := by unfold isDig at hc; omega
      by_cases hd : d' = []
      · subst hd
        simp [valD] at ha
        subst ha
        have e : n = c.toNat - 48 := by omega
        rw [decDigits, dif_pos (by omega), e, of_dig c hc]
        rfl
      · have hlen : d'.length = k := by simp at h1; exact h1
        have hhead : (d' ++ [c]).head? = d'.head? := head_app _ _ hd
        have h3' : d'.head? ≠ some 48 := by
          rw [hhead] at h3
          refine h3 ?_
          have : 0 < d'.length := List.length_pos_iff.2 hd
          simp
          omega
        have hd' := ih d' a hlen hd (fun _ => h3') ha
        have ha1 : a ≠ 0 := by
          rintro rfl
          rw [← hd'] at h3'
          exact h3' (by decide +kernel)
        rw [decDigits, dif_neg (by omega), hn, show (a * 10 + (c.toNat - 48)) / 10 = a by omega, show (a * 10 + (c.toNat - 48)) % 10 = c.toNat - 48 by omega, hd', of_dig c hc]
    · cases h4
theorem valD_lt : ∀ (d : List UInt8) (acc n k : Nat), valD acc d = some n → acc < 10 ^ k → n < 10 ^ (k + d.length) := by
  intro d
  induction d with
  | nil => intro acc n k h hk; simp [valD] at h; subst h; simpa using hk
  | cons c r ih =>
    intro acc n k h hk
    simp only [valD] at h
    split at h
    · rename_i hc
      unfold isDig at hc
      have := ih _ n (k + 1) h (by rw [Nat.pow_succ]; omega)
      rw [List.length_cons]
      rw [show k + (r.length + 1) = k + 1 + r.length by omega]
      exact this
    · cases h
theorem parse_val : ∀ (d : List UInt8) (acc k : Nat), acc < 10 ^ k → k + d.length ≤ 18 → ∀ n, parseUint10 acc d = .ok n ↔ valD acc d = some n := by
  intro d
  induction d with
  | nil => intro acc k h1 h2 n; simp [parseUint10, valD]
  | cons c r ih =>
    intro acc k h1 h2 n
    simp only [List.length_cons] at h2
    simp only [parseUint10, valD]
    have hk : 10 ^ k ≤ 10 ^ 17 := Nat.pow_le_pow_right (by omega) (by omega)
    by_cases hc : isDig c
    · have hc' : 48 ≤ c.toNat ∧ c.toNat ≤ 57 := hc
      rw [if_pos hc', if_neg (by omega), if_neg (by omega), if_pos hc]
      exact ih _ (k + 1) (by rw [Nat.pow_succ]; omega) (by omega) n
    · have hc' : ¬ (48 ≤ c.toNat ∧ c.toNat ≤ 57) := hc
      rw [if_neg hc', if_neg hc]
      constructor
      · intro h; cases h
      · intro h; cases h

theorem numD_dec (n : Nat) (h : (decDigits n).length ≤ 6) : numD (decDigits n) = some n := by
  unfold numD
  rw [if_neg ?_, valD_dec]
  rintro (h1 | h1 | ⟨h1, h2⟩)
  · exact decDigits_ne n h1
  · omega
  · exact (head_dec n 48 h2).2 h1 rfl
theorem dec_numD (d : List UInt8) (n : Nat) (h : numD d = some n) : decDigits n = d ∧ d.length ≤ 6 ∧ n < 1000000 ∧ d ≠ [] ∧ valD 0 d = some n := by
  unfold numD at h
  split at h
  · cases h
  · rename_i hh
    have h1 : d ≠ [] := fun e => hh (.inl e)
    have h2 : d.length ≤ 6 := by
      rcases Nat.lt_or_ge 6 d.length with h2 | h2
      · exact absurd (.inr (.inl h2)) hh
      · exact h2
    refine ⟨dec_val _ d n rfl h1 (fun h3 h4 => hh (.inr (.inr ⟨h3, h4⟩))) h, h2, ?_, h1, h⟩
    have := valD_lt d 0 n 0 h (by omega)
    have : 10 ^ (0 + d.length) ≤ 10 ^ 6 := Nat.pow_le_pow_right (by omega) (by omega)
    omega

/-- What is a number reads and writes as one. -/
theorem numP_ok (s : List UInt8) (v : Int) (h : numP s = some v) : atoiAll s = .ok v ∧ itoa v = s ∧ (dropMinus s).length ≤ 6 ∧ -1000000 < v ∧ v < 1000000 := by
  cases s with
  | nil => cases h
  | cons c d =>
    simp only [numP] at h
    by_cases hc : c = 45
    · subst hc
      rw [if_pos rfl] at h
      split at h
      · cases h
      · rename_i hd48
        obtain ⟨n, hn, rfl⟩ := Option.map_eq_some_iff.1 h
        obtain ⟨h1, h2, h3, h4, h5⟩ := dec_numD d n hn
        have hn0 : n ≠ 0 := by
          rintro rfl
          exact hd48 (by rw [← h1]; decide +kernel)
        have hp : parseMag d = .ok n := by
          unfold parseMag
          rw [if_neg h4]
          exact (parse_val d 0 0 (by omega) (by omega) n).2 h5
        refine ⟨?_, ?_, ?_, by omega, by omega⟩
        · simp [atoiAll, hp]
          omega
        · rw [itoa, if_pos (by omega), show (-(n : Int)).natAbs = n by omega, h1]
        · simpa [dropMinus] using h2
    · rw [if_neg hc] at h
      obtain ⟨n, hn, rfl⟩ := Option.map_eq_some_iff.1 h
      obtain ⟨h1, h2, h3, h4, h5⟩ := dec_numD (c :: d) n hn
      have hdig : isDig c := (head_dec n c (by rw [h1]; rfl)).1
      unfold isDig at hdig
      have hp : parseMag (c :: d) = .ok n := by
        unfold parseMag
        rw [if_neg h4]
        exact (parse_val (c :: d) 0 0 (by omega) (by omega) n).2 h5
      have n43 : ¬ c.toNat = 43 := by omega
      have n45 : ¬ c.toNat = 45 := by omega
      refine ⟨?_, ?_, ?_, by omega, by omega⟩
      · simp only [atoiAll, n43, n45, or_self, if_false, hp]
        simp
        omega
      · rw [itoa, if_neg (by omega), Int.toNat_natCast, h1]
      · simpa [dropMinus, hc] using h2
theorem ok_numP (s : List UInt8) (v : Int) (h2 : itoa v = s) (h3 : (dropMinus s).length ≤ 6) : numP s = some v := by
  subst h2
  unfold itoa at h3 ⊢
  by_cases hv : v < 0
  · rw [if_pos hv] at h3 ⊢
    simp [dropMinus] at h3
    simp only [numP, if_true]
    rw [if_neg ?_, numD_dec _ h3]
    · simp; omega
    · intro e
      have := valD_dec v.natAbs
      rw [e] at this
      simp [valD, isDig] at this
      omega
  · rw [if_neg hv] at h3 ⊢
    cases hd : decDigits v.toNat with
    | nil => exact absurd hd (decDigits_ne _)
    | cons c d =>
      have hdig : isDig c := (head_dec v.toNat c (by rw [hd]; rfl)).1
      have hc : c ≠ 45 := by
        rintro rfl
        simp [isDig] at hdig
      rw [hd] at h3
      simp [dropMinus, hc] at h3
      simp only [numP, if_neg hc]
      have := numD_dec v.toNat (by rw [hd]; simpa using h3)
      rw [hd] at this
      rw [this]
      simp
      omega
end Go.Proofs.YtkphijabhoppnaaDoor
