/- The reference's words; lines by index. -/
import Derived.Test.YtkphijabhoppnaaDoorPCodeParsesx3
import Derived.Test.YtkphijabhoppnaaDoorTf
namespace Go.Proofs.YtkphijabhoppnaaDoor
open Go.RowKit Go.Proofs.YtkphijabhoppnaaDoorW.PrintWords Go.Proofs.YtkphijabhoppnaaDoor.PCodeParses
set_option linter.unusedSimpArgs false
set_option linter.unusedVariables false

theorem bt_get (s : ByteArray) (i : Nat) (h : i < s.size) : bt s (i : Int) = ((s.get! i).toNat : Int) := by
  unfold bt
  rw [dif_pos (by simpa using h), get!_eq s i h]
  rfl
theorem bt_sp (s : ByteArray) (i : Nat) (h : i < s.size) (c : Nat) (x : Int) (hx : x = c) : (bt s (i : Int) != x) = true ↔ ¬ (s.get! i).toNat = c := by
  rw [bt_get s i h, bne_iff_ne, hx]
  omega
theorem ref_words_from (s : ByteArray) (hs : s.size ≤ 1000000) : ∀ (d i k : Nat) (st : Option Nat) (acc : List (Nat × Nat)), i + d = s.size → (∀ a, st = some a → a < i) → acc.length ≤ i → 2 * d + 3 ≤ k →
    brazierref13_words.l0 k s (acc.map fun x => s.extract x.1 x.2) (st.getD i : Nat) i = some ((Lib.closeSpans s (spansB s d i st acc)).map fun x => s.extract x.1 x.2)
  | 0, i, k, st, acc, hd, hst, hac, hk => by
    obtain ⟨k, rfl⟩ : ∃ m, k = m + 3 := ⟨k - 3, by omega⟩
    have hw : wrap64 ((i : Int) + 1) = ((i + 1 : Nat) : Int) := by unfold wrap64; omega
    rw [brazierref13_words.l0, if_pos (by omega), if_neg (by omega), brazierref13_words.j1, if_neg (by simp), hw]
    cases st with
    | none =>
      rw [if_neg (by simp), brazierref13_words.l0, if_neg (by omega)]
      rfl
    | some a =>
      have ha := hst a rfl
      rw [if_pos (by simp; omega), if_pos (by simp), if_pos (by simp; omega), if_pos (by omega), if_pos (by simp; omega), brazierref13_words.l0, if_neg (by omega)]
      simp only [Option.getD_some, Int.toNat_natCast, spansB, Lib.closeSpans, List.map_append, List.map_cons, List.map_nil]
      rw [show i = s.size by omega]
  | d + 1, i, k, st, acc, hd, hst, hac, hk => by
    obtain ⟨k, rfl⟩ : ∃ m, k = m + 2 := ⟨k - 2, by omega⟩
    have hi : i < s.size := by omega
    have hw : wrap64 ((i : Int) + 1) = ((i + 1 : Nat) : Int) := by unfold wrap64; omega
    rw [brazierref13_words.l0, if_pos (by omega), if_pos (by omega), if_pos (by omega), brazierref13_words.j1, hw]
    by_cases h32 : (s.get! i).toNat = 32
    · rw [if_neg (by rw [bt_sp s i hi 32 32 rfl]; simp [h32])]
      cases st with
      | none =>
        rw [if_neg (by simp), spansB_yes _ _ _ _ hi h32]
        exact ref_words_from s hs d (i + 1) k none acc (by omega) (by simp) (by omega) (by omega)
      | some a =>
        have ha := hst a rfl
        rw [if_pos (by simp; omega), if_pos (by simp), if_pos (by simp; omega), if_pos (by omega), if_pos (by simp; omega), spansB_yes' _ _ _ _ _ hi h32]
        have := ref_words_from s hs d (i + 1) k none (acc ++ [(a, i)]) (by omega) (by simp) (by simp; omega) (by omega)
        rw [← this]
        simp
    · rw [if_pos (by rw [bt_sp s i hi 32 32 rfl]; exact h32), spansB_no _ _ _ _ _ hi h32]
      have := ref_words_from s hs d (i + 1) k (some (st.getD i)) acc (by omega) (by intro a ha; cases ha; cases st with
        | none => simp
        | some b => have := hst b rfl; simp; omega) (by omega) (by omega)
      rw [← this]
      rfl
theorem ref_words (s : ByteArray) (hs : s.size ≤ 1000000) (k : Nat) (hk : 2 * s.size + 3 ≤ k) : brazierref13_words.f k s = some (fieldsB s) :=
  ref_words_from s hs s.size 0 k none [] (by omega) (by simp) (by simp) hk
end Go.Proofs.YtkphijabhoppnaaDoor
namespace Go.Proofs.YtkphijabhoppnaaDoor
open Go.RowKit Go.Proofs.YtkphijabhoppnaaDoorW.PrintWords Go.Proofs.YtkphijabhoppnaaDoor.PCodeParses
set_option linter.unusedSimpArgs false
set_option linter.unusedVariables false

def linesI (s : ByteArray) : Nat → Nat → Nat → List ByteArray
  | b, 0, i => [s.extract b i]
  | b, d + 1, i => if (s.get! i).toNat = 10 then s.extract b i :: linesI s (i + 1) d (i + 1) else linesI s b d (i + 1)
def headL (x : List UInt8) : List (List UInt8) → List ByteArray
  | [] => []
  | h :: t => strB (x ++ h) :: t.map strB
theorem strB_ext (s : ByteArray) (b i : Nat) : strB ((s.data.toList.take i).drop b) = s.extract b i := by
  apply ByteArray.ext
  rw [ByteArray.data_extract]
  apply Array.toList_inj.1
  rw [Array.toList_extract, List.extract_eq_take_drop]
  simp [strB, List.drop_take]
theorem linesI_eq (s : ByteArray) : ∀ (d b i : Nat), b ≤ i → i + d = s.size → linesI s b d i = headL ((s.data.toList.take i).drop b) (splitB (s.data.toList.drop i))
  | 0, b, i, hb, hd => by
    have hl : s.data.toList.length = s.size := Array.length_toList
    have h0 : s.data.toList.drop i = [] := List.drop_eq_nil_of_le (by rw [hl]; omega)
    rw [h0, show splitB [] = [[]] from rfl, linesI, headL, List.append_nil, strB_ext]
    rfl
  | d + 1, b, i, hb, hd => by
    have hl : s.data.toList.length = s.size := Array.length_toList
    have hi : i < s.data.toList.length := by omega
    have hg : s.get! i = s.data.toList[i] := by
      rw [get!_eq s i (by omega)]
      rfl
    rw [List.drop_eq_getElem_cons hi, splitB, linesI]
    by_cases hc : s.data.toList[i] = 10
    · rw [if_pos hc, if_pos (by rw [hg, hc]; rfl), headL, List.append_nil, strB_ext, linesI_eq s d (i + 1) (i + 1) (Nat.le_refl _) (by omega)]
      have hne := splitB_ne (s.data.toList.drop (i + 1))
      cases hs : splitB (s.data.toList.drop (i + 1)) with
      | nil => exact absurd hs hne
      | cons h t =>
        rw [headL, List.drop_eq_nil_of_le (by simp; omega)]
        simp
    · rw [if_neg hc, if_neg (by rw [hg]; intro e; exact hc (UInt8.toNat_inj.1 e)), linesI_eq s d b (i + 1) (by omega) (by omega)]
      have hne := splitB_ne (s.data.toList.drop (i + 1))
      cases hs : splitB (s.data.toList.drop (i + 1)) with
      | nil => exact absurd hs hne
      | cons h t =>
        simp only [headL]
        have : (s.data.toList.take (i + 1)).drop b = (s.data.toList.take i).drop b ++ [s.data.toList[i]] := by
          rw [List.take_succ_eq_append_getElem hi, List.drop_append_of_le_length (by simp; omega)]
        rw [this, List.append_assoc]
        rfl
theorem linesI_all (s : ByteArray) : linesI s 0 s.size 0 = linesB s := by
  rw [linesI_eq s s.size 0 0 (Nat.le_refl _) (by omega), linesB, List.drop_zero]
  have hne := splitB_ne s.data.toList
  cases hs : splitB s.data.toList with
  | nil => exact absurd hs hne
  | cons h t => simp [headL, hs]
end Go.Proofs.YtkphijabhoppnaaDoor
