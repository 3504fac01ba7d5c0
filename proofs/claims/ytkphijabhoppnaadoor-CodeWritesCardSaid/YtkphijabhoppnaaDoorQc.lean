/- Bytes of a bytecode, and codes of names, by the document's reference: the same functions as code's. -/
import Derived.Test.YtkphijabhoppnaaDoorPCodeWritesx3
import Derived.Test.YtkphijabhoppnaaDoorPCodeWritesx4
import Derived.Test.YtkphijabhoppnaaDoorQa
import Derived.Test.YtkphijabhoppnaaDoorCo
namespace Go.Proofs.YtkphijabhoppnaaDoor
open Go.RowKit Go.Proofs.YtkphijabhoppnaaDoorW.PrintWords
set_option linter.unusedSimpArgs false
set_option linter.unusedVariables false

theorem w_operands (k : Nat) (c : Int) : PCodeWrites.brazierref13_Operands.f (k + 2) c = some (opB (opk c)) := by
  unfold PCodeWrites.brazierref13_Operands.f opk
  by_cases h1 : c = 1; · subst h1; rfl
  by_cases h4 : c = 4; · subst h4; rfl
  by_cases h5 : c = 5; · subst h5; rfl
  by_cases h27 : c = 27; · subst h27; rfl
  by_cases h29 : c = 29; · subst h29; rfl
  by_cases h32 : c = 32; · subst h32; rfl
  by_cases h33 : c = 33; · subst h33; rfl
  by_cases h34 : c = 34; · subst h34; rfl
  by_cases h38 : c = 38; · subst h38; rfl
  by_cases h2 : c = 2; · subst h2; rfl
  by_cases h25 : c = 25; · subst h25; rfl
  by_cases h26 : c = 26; · subst h26; rfl
  by_cases h30 : c = 30; · subst h30; rfl
  by_cases h31 : c = 31; · subst h31; rfl
  simp [h1, h4, h5, h27, h29, h32, h33, h34, h38, h2, h25, h26, h30, h31, PCodeWrites.brazierref13_Operands.j0, PCodeWrites.brazierref13_Operands.j1, opB]
theorem w_in (a lo hi : Int) : PCodeWrites.brazierref13_in.f a lo hi = some (decide (lo ≤ a ∧ a ≤ hi)) := by
  unfold PCodeWrites.brazierref13_in.f
  by_cases h : a ≥ lo
  · rw [if_pos h]; congr 1; simp; omega
  · rw [if_neg h]; congr 1; simp; omega

theorem ref_write (k : Nat) (c a b s : Int) : PCodeWrites.brazierref13_Write.f (k + 4) c a b s = some (writeS c a b) := by
  unfold PCodeWrites.brazierref13_Write.f writeS
  by_cases h0 : c < 0
  · rw [if_pos h0, if_neg (by omega)]; rfl
  · rw [if_neg h0]
    by_cases h1 : c > 40
    · rw [if_neg (by omega), decide_eq_true h1]; rfl
    · rw [if_pos ⟨by omega, by omega⟩, decide_eq_false h1, PCodeWrites.brazierref13_Write.j0, if_neg (by simp), Option.bind_some, w_operands, Option.bind_some, opB_list]
      have ec : c % 256 = c := by omega
      rw [ec]
      rcases opk_le c with hk | hk | hk | hk | hk <;> rw [hk] <;> simp only [opLs, writeK, w_in, Option.bind_some]
      · rw [if_neg (by decide), if_neg (by decide), if_neg (by decide), if_neg (by decide)]
        by_cases ha : a = 0
        · rw [if_pos ha]
          by_cases hb : b = 0
          · rw [if_pos hb, if_pos ⟨ha, hb⟩]
          · rw [if_neg hb, if_neg (fun h => hb h.2)]
        · rw [if_neg ha, if_neg (fun h => ha h.1)]
      · rw [if_pos trivial]
        by_cases ha : inR 1 a
        · have ha' : 0 ≤ a ∧ a ≤ 255 := ha
          rw [decide_eq_true ha', if_pos rfl, PCodeWrites.brazierref13_Write.j1]
          by_cases hb : b = 0
          · rw [if_neg (by simp [hb]), if_pos (by simp), if_pos ⟨ha, hb⟩, Int.emod_eq_of_lt ha'.1 (by omega)]; rfl
          · rw [if_pos (by simpa using hb), if_neg (fun h => hb h.2)]
        · rw [decide_eq_false (show ¬ (0 ≤ a ∧ a ≤ 255) from ha), if_neg (by simp), PCodeWrites.brazierref13_Write.j1, if_pos rfl, if_neg (fun h => ha h.1)]
      · rw [if_neg (by decide), if_pos trivial]
        by_cases ha : inR 2 a
        · have ha' : -128 ≤ a ∧ a ≤ 127 := ha
          rw [decide_eq_true ha', if_pos rfl, PCodeWrites.brazierref13_Write.j2]
          by_cases hb : b = 0
          · rw [if_neg (by simp [hb]), if_pos (by simp), if_pos ⟨ha, hb⟩]; rfl
          · rw [if_pos (by simpa using hb), if_neg (fun h => hb h.2)]
        · rw [decide_eq_false (show ¬ (-128 ≤ a ∧ a ≤ 127) from ha), if_neg (by simp), PCodeWrites.brazierref13_Write.j2, if_pos rfl, if_neg (fun h => ha h.1)]
      · rw [if_neg (by decide), if_neg (by decide), if_pos trivial]
        by_cases ha : inR 3 a
        · have ha' : -32768 ≤ a ∧ a ≤ 32767 := by have h : -32768 ≤ a ∧ a < 32768 := ha; omega
          rw [decide_eq_true ha', if_pos rfl, PCodeWrites.brazierref13_Write.j3]
          by_cases hb : b = 0
          · rw [if_neg (by simp [hb]), Option.bind_some, if_pos (by simp), if_pos ⟨ha, hb⟩]; rfl
          · rw [if_pos (by simpa using hb), if_neg (fun h => hb h.2)]
        · have ha' : ¬ (-32768 ≤ a ∧ a ≤ 32767) := fun h => ha (show -32768 ≤ a ∧ a < 32768 by omega)
          rw [decide_eq_false ha', if_neg (by simp), PCodeWrites.brazierref13_Write.j3, if_pos rfl, if_neg (fun h => ha h.1)]
      · rw [if_neg (by decide), if_neg (by decide), if_neg (by decide), if_pos trivial]
        by_cases ha : inR 1 a
        · have ha' : 0 ≤ a ∧ a ≤ 255 := ha
          rw [decide_eq_true ha', if_pos rfl, PCodeWrites.brazierref13_Write.j4]
          by_cases hb : inR 1 b
          · have hb' : 0 ≤ b ∧ b ≤ 255 := hb
            rw [decide_eq_true hb', if_neg (by simp), Option.bind_some, if_pos (by simp), if_pos ⟨ha, hb⟩, Int.emod_eq_of_lt ha'.1 (by omega), Int.emod_eq_of_lt hb'.1 (by omega)]; rfl
          · rw [decide_eq_false (show ¬ (0 ≤ b ∧ b ≤ 255) from hb), if_pos (by simp), if_neg (fun h => hb h.2)]
        · rw [decide_eq_false (show ¬ (0 ≤ a ∧ a ≤ 255) from ha), if_neg (by simp), PCodeWrites.brazierref13_Write.j4, if_pos rfl, if_neg (fun h => ha h.1)]

theorem w_name : ∀ n : Nat, n < 41 → PCodeWrites.brazierref13_Name.f n = some (baL (nmC n)) := by decide +kernel
theorem w_name_any (c : Int) : PCodeWrites.brazierref13_Name.f c = some (baL (nameC c)) := by
  unfold nameC
  by_cases h : 0 ≤ c ∧ c ≤ 40
  · obtain ⟨n, rfl⟩ := Int.eq_ofNat_of_zero_le h.1
    rw [if_pos h, w_name n (by omega)]
  · rw [if_neg h]
    unfold PCodeWrites.brazierref13_Name.f
    rw [Option.bind_some]
    by_cases h0 : c < 0
    · rw [if_pos h0]; rfl
    · rw [if_neg h0, if_pos (by omega)]; rfl
theorem nm_apart : ∀ i : Nat, i < 41 → ∀ j : Nat, j < 41 → nmC i = nmC j → i = j := by decide +kernel
theorem kindTo_none (s : List UInt8) : ∀ n : Nat, (∀ c : Nat, c < n → nmC c ≠ s) → kindTo s n = none
  | 0, _ => rfl
  | n + 1, h => by rw [kindTo, if_neg (h n (by omega)), kindTo_none s n (fun c hc => h c (by omega))]
theorem kindTo_at (s : List UInt8) (i : Nat) : ∀ n : Nat, n ≤ 41 → i < n → nmC i = s → kindTo s n = some i
  | 0, _, h, _ => absurd h (by omega)
  | n + 1, hn, h, e => by
    rw [kindTo]
    by_cases h2 : nmC n = s
    · rw [if_pos h2, nm_apart n (by omega) i (by omega) (h2.trans e.symm)]
    · have : i ≠ n := by rintro rfl; exact h2 e
      rw [if_neg h2, kindTo_at s i n (by omega) (by omega) e]
theorem ref_kind_from (s : ByteArray) : ∀ (d i k : Nat), 41 - i = d → i ≤ 41 → d < k → (∀ c : Nat, c < i → nmC c ≠ s.data.toList) → PCodeWrites.brazierref13_Kind.l0 k s i = some (kindS s.data.toList) := by
  intro d
  induction d with
  | zero =>
    intro i k h1 h2 h3 h4
    obtain ⟨k, rfl⟩ : ∃ m, k = m + 1 := ⟨k - 1, by omega⟩
    obtain rfl : i = 41 := by omega
    rw [PCodeWrites.brazierref13_Kind.l0, if_neg (by omega)]
    unfold kindS
    rw [kindTo_none _ _ h4]
  | succ d ih =>
    intro i k h1 h2 h3 h4
    obtain ⟨k, rfl⟩ : ∃ m, k = m + 1 := ⟨k - 1, by omega⟩
    rw [PCodeWrites.brazierref13_Kind.l0, if_pos (by omega), w_name i (by omega), Option.bind_some, ba_toList, ba_toList]
    show (if nmC i = s.data.toList then _ else _) = _
    by_cases h : nmC i = s.data.toList
    · rw [if_pos h]
      unfold kindS
      rw [kindTo_at _ i 41 (by omega) (by omega) h]
    · have e : wrap64 ((i : Int) + 1) = ((i + 1 : Nat) : Int) := by unfold wrap64; omega
      rw [if_neg h, e]
      exact ih (i + 1) k (by omega) (by omega) (by omega) (fun c hc => by
        by_cases hci : c = i
        · rw [hci]; exact h
        · exact h4 c (by omega))
theorem ref_kind (s : ByteArray) : PCodeWrites.brazierref13_Kind.f 42 s = some (kindS s.data.toList) :=
  ref_kind_from s 41 0 42 rfl (by omega) (by omega) (fun c hc => absurd hc (by omega))
end Go.Proofs.YtkphijabhoppnaaDoor
