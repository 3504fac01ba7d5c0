/- A bytecode written, whatever it is (brazier/code.Write). -/
import Derived.Test.YtkphijabhoppnaaDoorCh
namespace Go.Proofs.YtkphijabhoppnaaDoor
open Go.RowKit Go.Proofs.YtkphijabhoppnaaDoorW.PrintWords
set_option linter.unusedSimpArgs false
set_option linter.unusedVariables false

/-- Write, as the document has it, of a code that there is: the bytes; or none, and the error. -/
def writeK (c a b : Int) : Nat → List Int × Int
  | 0 => if a = 0 ∧ b = 0 then ([c], 0) else ([], 1)
  | 1 => if inR 1 a ∧ b = 0 then ([c, a], 0) else ([], 1)
  | 2 => if inR 2 a ∧ b = 0 then ([c, a % 256], 0) else ([], 1)
  | 3 => if inR 3 a ∧ b = 0 then ([c, a % 256, a / 256 % 256], 0) else ([], 1)
  | _ => if inR 1 a ∧ inR 1 b then ([c, a, b], 0) else ([], 1)
def writeS (c a b : Int) : List Int × Int := if 0 ≤ c ∧ c ≤ 40 then writeK c a b (opk c) else ([], 5)

theorem u8_mod (x : Int) : IntKind.u8.wrap x = x % 256 := by
  simp [IntKind.wrap, IntKind.signed, IntKind.bits]

theorem write_calls (c a b s : Int) (w : World) (hG : Glob w) :
    Calls Tryd.prog 21 #[.agg #[.int .i64 c, .int .i64 a, .int .i64 b, .int .i64 s]] w (WrPost w (writeS c a b).1 (writeS c a b).2) := by
  unfold writeS
  by_cases hc : 0 ≤ c ∧ c ≤ 40
  · rw [if_pos hc]
    obtain ⟨n, rfl⟩ := Int.eq_ofNat_of_zero_le hc.1
    have hn : n ≤ 40 := by omega
    clear hc
    rcases opk_le n with hk | hk | hk | hk | hk <;> rw [hk] <;> simp only [writeK]
    · by_cases ha : a = 0
      · by_cases hb : b = 0
        · rw [if_pos ⟨ha, hb⟩]; subst ha; subst hb
          exact write_0 n 0 0 s w hG hn hk
        · rw [if_neg (by simp [hb])]; subst ha
          exact write_0b n 0 b s w hG hn hk hb
      · rw [if_neg (by simp [ha])]
        exact write_0a n a b s w hG hn hk ha
    · by_cases ha : inR 1 a
      · by_cases hb : b = 0
        · rw [if_pos ⟨ha, hb⟩]; subst hb
          exact write_1 n a 0 s w hG hn hk ha
        · rw [if_neg (by simp [hb])]
          exact write_1b n a b s w hG hn hk ha hb
      · rw [if_neg (by simp [ha])]
        exact write_1a n a b s w hG hn hk ha
    · by_cases ha : inR 2 a
      · by_cases hb : b = 0
        · rw [if_pos ⟨ha, hb⟩]; subst hb
          have := write_2 n a 0 s w hG hn hk ha
          rw [u8_mod] at this
          exact this
        · rw [if_neg (by simp [hb])]
          exact write_2b n a b s w hG hn hk ha hb
      · rw [if_neg (by simp [ha])]
        exact write_2a n a b s w hG hn hk ha
    · by_cases ha : inR 3 a
      · by_cases hb : b = 0
        · rw [if_pos ⟨ha, hb⟩]; subst hb
          have := write_3 n a 0 s w hG hn hk ha
          rw [u8_mod, u8_mod] at this
          exact this
        · rw [if_neg (by simp [hb])]
          exact write_3b n a b s w hG hn hk ha hb
      · rw [if_neg (by simp [ha])]
        exact write_3a n a b s w hG hn hk ha
    · by_cases ha : inR 1 a
      · by_cases hb : inR 1 b
        · rw [if_pos ⟨ha, hb⟩]
          exact write_4 n a b s w hG hn hk ha hb
        · rw [if_neg (by simp [hb])]
          exact write_4b n a b s w hG hn hk ha hb
      · rw [if_neg (by simp [ha])]
        exact write_4a n a b s w hG hn hk ha
  · rw [if_neg hc]
    exact write_form c a b s w (by omega)
end Go.Proofs.YtkphijabhoppnaaDoor
