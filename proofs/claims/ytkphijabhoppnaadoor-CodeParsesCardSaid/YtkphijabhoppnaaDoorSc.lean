/- The reference's number, Operands, in, Write, Kind. -/
import Derived.Test.YtkphijabhoppnaaDoorPCodeParsesx5
import Derived.Test.YtkphijabhoppnaaDoorSb
import Derived.Test.YtkphijabhoppnaaDoorPCodeParsesx4
import Derived.Test.YtkphijabhoppnaaDoorPCodeParsesx3
import Derived.Test.YtkphijabhoppnaaDoorQa
import Derived.Test.YtkphijabhoppnaaDoorCo
namespace Go.Proofs.YtkphijabhoppnaaDoor
open Go.RowKit Go.Proofs.YtkphijabhoppnaaDoorW.PrintWords Go.Proofs.YtkphijabhoppnaaDoor.PCodeParses
set_option linter.unusedSimpArgs false
set_option linter.unusedVariables false

def numO : Option Int → Int × Bool
  | some n => (n, true)
  | none => (0, false)
theorem w64 (n : Int) (h : -9223372036854775808 ≤ n ∧ n ≤ 9223372036854775807) : wrap64 n = n := by unfold wrap64; omega
theorem get_list (s : ByteArray) (i : Nat) (h : i < s.size) : s.get! i = s.data.toList[i]'(by rw [Array.length_toList]; exact h) := by
  rw [get!_eq s i h]
  rfl
theorem ref_digits (d : ByteArray) (neg : Bool) (hd : d.size ≤ 6) : ∀ (r i acc k : Nat), i + r = d.size → acc < 10 ^ i → r + 1 ≤ k →
    brazierref13_number.l0 k neg d acc i = some (numO ((valD acc (d.data.toList.drop i)).map fun (n : Nat) => if neg then -(n : Int) else (n : Int)))
  | 0, i, acc, k, hr, ha, hk => by
    obtain ⟨k, rfl⟩ : ∃ m, k = m + 1 := ⟨k - 1, by omega⟩
    have hp : 10 ^ i ≤ 1000000 := Nat.le_trans (Nat.pow_le_pow_right (by omega) (show i ≤ 6 by omega)) (by decide)
    have hl : d.data.toList.length = d.size := Array.length_toList
    have h0 : d.data.toList.drop i = [] := List.drop_eq_nil_of_le (by rw [hl]; omega)
    have hw : wrap64 (-(acc : Int)) = -(acc : Int) := w64 _ (by omega)
    rw [brazierref13_number.l0, if_neg (by omega), h0, hw]
    cases neg <;> rfl
  | r + 1, i, acc, k, hr, ha, hk => by
    obtain ⟨k, rfl⟩ : ∃ m, k = m + 1 := ⟨k - 1, by omega⟩
    have hp : 10 ^ i ≤ 1000000 := Nat.le_trans (Nat.pow_le_pow_right (by omega) (show i ≤ 6 by omega)) (by decide)
    have hl : d.data.toList.length = d.size := Array.length_toList
    have hi : i < d.data.toList.length := by omega
    have hb := bt_get d i (by omega)
    rw [get_list d i (by omega)] at hb
    have hw1 : wrap64 ((i : Int) + 1) = ((i + 1 : Nat) : Int) := w64 _ (by omega)
    rw [brazierref13_number.l0, if_pos (by omega), if_pos (by omega), List.drop_eq_getElem_cons hi, valD, hb, hw1]
    by_cases h1 : (d.data.toList[i]).toNat < 48
    · rw [if_pos (by omega), if_neg (by unfold isDig; omega)]
      rfl
    · rw [if_neg (by omega)]
      by_cases h2 : (d.data.toList[i]).toNat > 57
      · rw [if_pos (by omega), if_neg (by unfold isDig; omega)]
        rfl
      · rw [if_neg (by omega), if_pos (by unfold isDig; omega)]
        obtain ⟨u, hu⟩ : ∃ u, (d.data.toList[i]).toNat = u := ⟨_, rfl⟩
        rw [hu] at h1 h2 ⊢
        have hw2 : wrap64 (10 * (acc : Int)) = 10 * acc := w64 _ (by omega)
        have hw3 : ((u : Int) - 48) % 256 = (u : Int) - 48 := Int.emod_eq_of_lt (by omega) (by omega)
        have hw : wrap64 (wrap64 (10 * (acc : Int)) + ((u : Int) - 48) % 256) = ((acc * 10 + (u - 48) : Nat) : Int) := by
          rw [hw2, hw3, w64 _ (by omega)]
          omega
        rw [hw]
        have hpp : acc * 10 + (u - 48) < 10 ^ (i + 1) := by rw [Nat.pow_succ]; omega
        exact ref_digits d neg hd r (i + 1) _ k (by omega) hpp (by omega)
theorem ref_tail (d : ByteArray) (neg : Bool) (k : Nat) (hk : 10 ≤ k) :
    brazierref13_number.j1 k neg d = some (numO (if neg = true ∧ d.data.toList = [48] then none else (numD d.data.toList).map fun (n : Nat) => if neg then -(n : Int) else (n : Int))) := by
  have hl : d.data.toList.length = d.size := Array.length_toList
  obtain ⟨k, rfl⟩ : ∃ m, k = m + 2 := ⟨k - 2, by omega⟩
  rw [brazierref13_number.j1, ba_toList]
  unfold numD
  by_cases h0 : d.data.toList = []
  · rw [if_pos h0, brazierref13_number.j2, if_pos rfl, if_neg (by rw [h0]; simp), if_pos (.inl h0)]
    rfl
  · rw [if_neg h0]
    by_cases h6 : (d.size : Int) > 6
    · rw [if_pos h6, brazierref13_number.j2, if_pos rfl, if_neg (by intro h; have := congrArg List.length h.2; simp at this; omega), if_pos (.inr (.inl (by omega)))]
      rfl
    · rw [if_neg h6]
      have hpos : 0 < d.data.toList.length := List.length_pos_iff.2 h0
      have hrest : ∀ b : Bool, brazierref13_number.j2 (k + 1) neg d b = if b = true then some (0, false) else some (numO ((valD 0 d.data.toList).map fun (n : Nat) => if neg then -(n : Int) else (n : Int))) := by
        intro b
        rw [brazierref13_number.j2]
        split
        · rfl
        · exact ref_digits d neg (by omega) d.size 0 0 k (by omega) (by simp) (by omega)
      have hfin : ∀ X, (if neg = true then (brazierref13_number.j2 (k + 1) neg d (d.data.toList == [48])) else (brazierref13_number.j2 (k + 1) neg d false)) = some (numO (if neg = true ∧ d.data.toList = [48] then X else (valD 0 d.data.toList).map fun (n : Nat) => if neg then -(n : Int) else (n : Int))) ∨ X ≠ none := by
        intro X
        cases X with
        | some x => exact .inr (by simp)
        | none =>
          refine .inl ?_
          cases neg with
          | false => simp [hrest]
          | true =>
            rw [if_pos rfl, hrest]
            by_cases h48 : d.data.toList = [48]
            · rw [if_pos (by simpa using h48), if_pos ⟨rfl, h48⟩]
              rfl
            · rw [if_neg (by simpa using h48), if_neg (fun h => h48 h.2)]
      have hfin0 := (hfin none).resolve_right (fun h => h rfl)
      by_cases h1 : (d.size : Int) > 1
      · rw [if_pos h1, if_pos (by omega)]
        have hb := bt_get d 0 (by omega)
        rw [get_list d 0 (by omega)] at hb
        have hh : d.data.toList.head? = some (d.data.toList[0]) := by rw [List.head?_eq_getElem?, List.getElem?_eq_getElem hpos]
        by_cases hz : (bt d 0) = 48
        · rw [if_pos hz, hrest, if_pos rfl]
          have : d.data.toList[0] = 48 := by
            apply UInt8.toNat_inj.1
            have e : (((d.data.toList[0]).toNat : Nat) : Int) = 48 := by rw [← hb]; exact hz
            show (d.data.toList[0]).toNat = 48
            omega
          rw [if_neg (by intro h; have := congrArg List.length h.2; simp at this; omega), if_pos (.inr (.inr ⟨by omega, by rw [hh, this]⟩))]
          rfl
        · rw [if_neg hz, hfin0]
          have : ¬ (d.data.toList = [] ∨ 6 < d.data.toList.length ∨ (1 < d.data.toList.length ∧ d.data.toList.head? = some 48)) := by
            rintro (h | h | ⟨-, h⟩)
            · exact h0 h
            · omega
            · rw [hh] at h
              have h := Option.some.inj h
              refine hz ?_
              have : bt d 0 = ((d.data.toList[0]).toNat : Int) := hb
              rw [this, h]
              rfl
          rw [if_neg this]
      · rw [if_neg h1, hfin0]
        have : ¬ (d.data.toList = [] ∨ 6 < d.data.toList.length ∨ (1 < d.data.toList.length ∧ d.data.toList.head? = some 48)) := by
          rintro (h | h | ⟨h, -⟩)
          · exact h0 h
          · omega
          · omega
        rw [if_neg this]
theorem ref_number (s : ByteArray) (k : Nat) (hk : 11 ≤ k) : brazierref13_number.f k s = some (numO (numP s.data.toList)) := by
  have hl : s.data.toList.length = s.size := Array.length_toList
  obtain ⟨k, rfl⟩ : ∃ m, k = m + 1 := ⟨k - 1, by omega⟩
  unfold brazierref13_number.f
  rw [ba_toList]
  cases hs : s.data.toList with
  | nil =>
    rw [if_pos rfl, brazierref13_number.j0, if_neg (by simp), ref_tail s false k (by omega), hs]
    rfl
  | cons c r =>
    have hsz : s.size = r.length + 1 := by rw [← hl, hs]; rfl
    rw [if_neg (by simp), if_pos (by omega), brazierref13_number.j0]
    have hb := bt_get s 0 (by omega)
    rw [get_list s 0 (by omega)] at hb
    have hc0 : s.data.toList[0]'(by rw [hl]; omega) = c := by simp [hs]
    rw [hc0] at hb
    have hbt : bt s 0 = (c.toNat : Int) := hb
    rw [hbt]
    by_cases hc : c = 45
    · subst hc
      rw [show (((45 : UInt8).toNat : Int) == 45) = true from rfl]
      rw [if_pos (by rfl), if_pos (by omega), ref_tail _ true k (by omega)]
      have he : (s.extract 1 s.size).data.toList = r := by
        rw [ByteArray.data_extract, Array.toList_extract, List.extract_eq_take_drop, hs]
        simp [hsz]
      rw [he, numP, if_pos rfl]
      by_cases h48 : r = [48]
      · rw [if_pos ⟨rfl, h48⟩, if_pos h48]
      · rw [if_neg (fun x => h48 x.2), if_neg h48]
        rfl
    · have hcn : ((c.toNat : Int) == 45) = false := by
        rw [beq_eq_false_iff_ne]
        intro e
        exact hc (UInt8.toNat_inj.1 (by simpa using (by omega : c.toNat = 45)))
      rw [hcn, if_neg (by simp), ref_tail s false k (by omega), hs, numP, if_neg hc, if_neg (fun h => Bool.noConfusion h.1)]
      rfl
end Go.Proofs.YtkphijabhoppnaaDoor
namespace Go.Proofs.YtkphijabhoppnaaDoor
open Go.RowKit Go.Proofs.YtkphijabhoppnaaDoorW.PrintWords
set_option linter.unusedSimpArgs false
set_option linter.unusedVariables false

theorem w_operandsP (k : Nat) (c : Int) : PCodeParses.brazierref13_Operands.f (k + 2) c = some (opB (opk c)) := by
  unfold PCodeParses.brazierref13_Operands.f opk
  by_cases h1 : c = 1; · subst h1; rfl
  by_cases h4 : c = 4; · subst h4; rfl
  by_cases h5 : c = 5; · subst h5; rfl
  by_cases h27 : c = 27; · subst h27; rfl
  by_cases h29 : c = 29; · subst h29; rfl
  by_cases h32 : c = 32; · subst h32; rfl
  by_cases h33 : c = 33; · subst h33; rfl
  by_cases h34 : c = 34; · subst h34; rfl
  by_cases h38 : c = 38; · subst h38; rfl
  by_cases h2 : c = 2; · subst h2; rfl
  by_cases h25 : c = 25; · subst h25; rfl
  by_cases h26 : c = 26; · subst h26; rfl
  by_cases h30 : c = 30; · subst h30; rfl
  by_cases h31 : c = 31; · subst h31; rfl
  simp [h1, h4, h5, h27, h29, h32, h33, h34, h38, h2, h25, h26, h30, h31, PCodeParses.brazierref13_Operands.j0, PCodeParses.brazierref13_Operands.j1, opB]
theorem w_inP (a lo hi : Int) : PCodeParses.brazierref13_in.f a lo hi = some (decide (lo ≤ a ∧ a ≤ hi)) := by
  unfold PCodeParses.brazierref13_in.f
  by_cases h : a ≥ lo
  · rw [if_pos h]; congr 1; simp; omega
  · rw [if_neg h]; congr 1; simp; omega

theorem ref_writeP (k : Nat) (c a b s : Int) : PCodeParses.brazierref13_Write.f (k + 4) c a b s = some (writeS c a b) := by
  unfold PCodeParses.brazierref13_Write.f writeS
  by_cases h0 : c < 0
  · rw [if_pos h0, if_neg (by omega)]; rfl
  · rw [if_neg h0]
    by_cases h1 : c > 40
    · rw [if_neg (by omega), decide_eq_true h1]; rfl
    · rw [if_pos ⟨by omega, by omega⟩, decide_eq_false h1, PCodeParses.brazierref13_Write.j0, if_neg (by simp), Option.bind_some, w_operandsP, Option.bind_some, opB_list]
      have ec : c % 256 = c := by omega
      rw [ec]
      rcases opk_le c with hk | hk | hk | hk | hk <;> rw [hk] <;> simp only [opLs, writeK, w_inP, Option.bind_some]
      · rw [if_neg (by decide), if_neg (by decide), if_neg (by decide), if_neg (by decide)]
        by_cases ha : a = 0
        · rw [if_pos ha]
          by_cases hb : b = 0
          · rw [if_pos hb, if_pos ⟨ha, hb⟩]
          · rw [if_neg hb, if_neg (fun h => hb h.2)]
        · rw [if_neg ha, if_neg (fun h => ha h.1)]
      · rw [if_pos trivial]
        by_cases ha : inR 1 a
        · have ha' : 0 ≤ a ∧ a ≤ 255 := ha
          rw [decide_eq_true ha', if_pos rfl, PCodeParses.brazierref13_Write.j1]
          by_cases hb : b = 0
          · rw [if_neg (by simp [hb]), if_pos (by simp), if_pos ⟨ha, hb⟩, Int.emod_eq_of_lt ha'.1 (by omega)]; rfl
          · rw [if_pos (by simpa using hb), if_neg (fun h => hb h.2)]
        · rw [decide_eq_false (show ¬ (0 ≤ a ∧ a ≤ 255) from ha), if_neg (by simp), PCodeParses.brazierref13_Write.j1, if_pos rfl, if_neg (fun h => ha h.1)]
      · rw [if_neg (by decide), if_pos trivial]
        by_cases ha : inR 2 a
        · have ha' : -128 ≤ a ∧ a ≤ 127 := ha
          rw [decide_eq_true ha', if_pos rfl, PCodeParses.brazierref13_Write.j2]
          by_cases hb : b = 0
          · rw [if_neg (by simp [hb]), if_pos (by simp), if_pos ⟨ha, hb⟩]; rfl
          · rw [if_pos (by simpa using hb), if_neg (fun h => hb h.2)]
        · rw [decide_eq_false (show ¬ (-128 ≤ a ∧ a ≤ 127) from ha), if_neg (by simp), PCodeParses.brazierref13_Write.j2, if_pos rfl, if_neg (fun h => ha h.1)]
      · rw [if_neg (by decide), if_neg (by decide), if_pos trivial]
        by_cases ha : inR 3 a
        · have ha' : -32768 ≤ a ∧ a ≤ 32767 := by have h : -32768 ≤ a ∧ a < 32768 := ha; omega
          rw [decide_eq_true ha', if_pos rfl, PCodeParses.brazierref13_Write.j3]
          by_cases hb : b = 0
          · rw [if_neg (by simp [hb]), Option.bind_some, if_pos (by simp), if_pos ⟨ha, hb⟩]; rfl
          · rw [if_pos (by simpa using hb), if_neg (fun h => hb h.2)]
        · have ha' : ¬ (-32768 ≤ a ∧ a ≤ 32767) := fun h => ha (show -32768 ≤ a ∧ a < 32768 by omega)
          rw [decide_eq_false ha', if_neg (by simp), PCodeParses.brazierref13_Write.j3, if_pos rfl, if_neg (fun h => ha h.1)]
      · rw [if_neg (by decide), if_neg (by decide), if_neg (by decide), if_pos trivial]
        by_cases ha : inR 1 a
        · have ha' : 0 ≤ a ∧ a ≤ 255 := ha
          rw [decide_eq_true ha', if_pos rfl, PCodeParses.brazierref13_Write.j4]
          by_cases hb : inR 1 b
          · have hb' : 0 ≤ b ∧ b ≤ 255 := hb
            rw [decide_eq_true hb', if_neg (by simp), Option.bind_some, if_pos (by simp), if_pos ⟨ha, hb⟩, Int.emod_eq_of_lt ha'.1 (by omega), Int.emod_eq_of_lt hb'.1 (by omega)]; rfl
          · rw [decide_eq_false (show ¬ (0 ≤ b ∧ b ≤ 255) from hb), if_pos (by simp), if_neg (fun h => hb h.2)]
        · rw [decide_eq_false (show ¬ (0 ≤ a ∧ a ≤ 255) from ha), if_neg (by simp), PCodeParses.brazierref13_Write.j4, if_pos rfl, if_neg (fun h => ha h.1)]

theorem w_nameP : ∀ n : Nat, n < 41 → PCodeParses.brazierref13_Name.f n = some (baL (nmC n)) := by decide +kernel
theorem w_name_anyP (c : Int) : PCodeParses.brazierref13_Name.f c = some (baL (nameC c)) := by
  unfold nameC
  by_cases h : 0 ≤ c ∧ c ≤ 40
  · obtain ⟨n, rfl⟩ := Int.eq_ofNat_of_zero_le h.1
    rw [if_pos h, w_nameP n (by omega)]
  · rw [if_neg h]
    unfold PCodeParses.brazierref13_Name.f
    rw [Option.bind_some]
    by_cases h0 : c < 0
    · rw [if_pos h0]; rfl
    · rw [if_neg h0, if_pos (by omega)]; rfl
theorem nm_apartP : ∀ i : Nat, i < 41 → ∀ j : Nat, j < 41 → nmC i = nmC j → i = j := by decide +kernel
theorem kindTo_noneP (s : List UInt8) : ∀ n : Nat, (∀ c : Nat, c < n → nmC c ≠ s) → kindTo s n = none
  | 0, _ => rfl
  | n + 1, h => by rw [kindTo, if_neg (h n (by omega)), kindTo_noneP s n (fun c hc => h c (by omega))]
theorem kindTo_atP (s : List UInt8) (i : Nat) : ∀ n : Nat, n ≤ 41 → i < n → nmC i = s → kindTo s n = some i
  | 0, _, h, _ => absurd h (by omega)
  | n + 1, hn, h, e => by
    rw [kindTo]
    by_cases h2 : nmC n = s
    · rw [if_pos h2, nm_apartP n (by omega) i (by omega) (h2.trans e.symm)]
    · have : i ≠ n := by rintro rfl; exact h2 e
      rw [if_neg h2, kindTo_atP s i n (by omega) (by omega) e]
theorem ref_kind_fromP (s : ByteArray) : ∀ (d i k : Nat), 41 - i = d → i ≤ 41 → d < k → (∀ c : Nat, c < i → nmC c ≠ s.data.toList) → PCodeParses.brazierref13_Kind.l0 k s i = some (kindS s.data.toList) := by
  intro d
  induction d with
  | zero =>
    intro i k h1 h2 h3 h4
    obtain ⟨k, rfl⟩ : ∃ m, k = m + 1 := ⟨k - 1, by omega⟩
    obtain rfl : i = 41 := by omega
    rw [PCodeParses.brazierref13_Kind.l0, if_neg (by omega)]
    unfold kindS
    rw [kindTo_noneP _ _ h4]
  | succ d ih =>
    intro i k h1 h2 h3 h4
    obtain ⟨k, rfl⟩ : ∃ m, k = m + 1 := ⟨k - 1, by omega⟩
    rw [PCodeParses.brazierref13_Kind.l0, if_pos (by omega), w_nameP i (by omega), Option.bind_some, ba_toList, ba_toList]
    show (if nmC i = s.data.toList then _ else _) = _
    by_cases h : nmC i = s.data.toList
    · rw [if_pos h]
      unfold kindS
      rw [kindTo_atP _ i 41 (by omega) (by omega) h]
    · have e : wrap64 ((i : Int) + 1) = ((i + 1 : Nat) : Int) := by unfold wrap64; omega
      rw [if_neg h, e]
      exact ih (i + 1) k (by omega) (by omega) (by omega) (fun c hc => by
        by_cases hci : c = i
        · rw [hci]; exact h
        · exact h4 c (by omega))
theorem ref_kindP (s : ByteArray) : PCodeParses.brazierref13_Kind.f 42 s = some (kindS s.data.toList) :=
  ref_kind_fromP s 41 0 42 rfl (by omega) (by omega) (fun c hc => absurd hc (by omega))
end Go.Proofs.YtkphijabhoppnaaDoor
