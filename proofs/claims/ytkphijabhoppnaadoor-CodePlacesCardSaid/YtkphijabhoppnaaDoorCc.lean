/- An operand (brazier/code.operand). -/
import Derived.Test.YtkphijabhoppnaaDoorCb
import Derived.Deep.QuietTactic
import Derived.BigQuiet
import Derived.Laws.BitsAllLaws
namespace Go.Proofs.YtkphijabhoppnaaDoor
open Go.RowKit
set_option linter.unusedSimpArgs false
set_option linter.unusedVariables false

/-- How many bytes an operand of a kind has. -/
def szK (k : Nat) : Nat := if k = 3 then 2 else 1
def kdB (k : Nat) : ByteArray := if k = 1 then ⟨#[117]⟩ else if k = 2 then ⟨#[115]⟩ else ⟨#[111]⟩
def s8 (x : Int) : Int := if x < 128 then x else x - 256
def s16 (x y : Int) : Int := if y < 128 then x + 256 * y else x + 256 * y - 65536

theorem wrap_s8 (x : Int) (h0 : 0 ≤ x) (h1 : x ≤ 255) : wrap64 (IntKind.i8.wrap x) = s8 x := by
  have e : IntKind.i8.wrap x = s8 x := by
    simp only [IntKind.wrap, IntKind.signed, IntKind.bits, s8, Bool.true_and, decide_eq_true_eq, show (2 : Int) ^ 8 = 256 from rfl, show (2 : Int) ^ (8 - 1) = 128 from rfl]
    by_cases h : x < 128
    · rw [if_pos h, if_neg (by omega)]; omega
    · rw [if_neg h, if_pos (by omega)]; omega
  rw [e]
  unfold wrap64 s8
  split <;> omega
theorem wrap_s16 (x y : Int) (h0 : 0 ≤ x) (h1 : x ≤ 255) (h2 : 0 ≤ y) (h3 : y ≤ 255) : wrap64 (IntKind.i16.wrap (bits .or .u16 x (y * 256))) = s16 x y := by
  have eb : bits .or .u16 x (y * 256) = x + 256 * y := by
    rw [u16_or x (y * 256) h0 (by omega) (by omega) (by omega), nat_join8' _ _ (by omega) (by omega)]
    omega
  rw [eb]
  have e : IntKind.i16.wrap (x + 256 * y) = s16 x y := by
    simp only [IntKind.wrap, IntKind.signed, IntKind.bits, s16, Bool.true_and, decide_eq_true_eq, show (2 : Int) ^ 16 = 65536 from rfl, show (2 : Int) ^ (16 - 1) = 32768 from rfl]
    by_cases h : y < 128
    · rw [if_pos h, if_neg (by omega)]; omega
    · rw [if_neg h, if_pos (by omega)]; omega
  rw [e]
  unfold wrap64 s16
  split <;> omega
theorem operand_short (k : Nat) (A : Option Addr) (n c : Nat) (w : World) (hn : n < szK k) (hk : k = 1 ∨ k = 2 ∨ k = 3) :
    Calls Tryd.prog 45 #[.string (kdB k), .slice A n c] w fun e w' => e = .returned (.tuple #[.int .i64 0, .int .i64 0, .bool false]) ∧ w = w' := by
  rcases hk with rfl | rfl | rfl
  · obtain rfl : n = 0 := by simp [szK] at hn; exact hn
    clear hn
    show Calls Tryd.prog 45 #[.string ⟨#[117]⟩, .slice A (0 : Nat) c] w _
    go_enter Tryd.func45, Tryd.ntmps45
    go_wp2_with fail
    go_ret3
    exact ⟨rfl, rfl⟩
  · obtain rfl : n = 0 := by simp [szK] at hn; exact hn
    clear hn
    show Calls Tryd.prog 45 #[.string ⟨#[115]⟩, .slice A (0 : Nat) c] w _
    go_enter Tryd.func45, Tryd.ntmps45
    go_wp2_with fail
    go_ret3
    exact ⟨rfl, rfl⟩
  · have h2 : n < 2 := hn
    clear hn
    show Calls Tryd.prog 45 #[.string ⟨#[111]⟩, .slice A n c] w _
    go_enter Tryd.func45, Tryd.ntmps45
    go_wp2_with fail
    all_goals (go_ret3; exact ⟨rfl, rfl⟩)

theorem operand_u (b off n c : Nat) (x : Int) (w : World) (hn : 1 ≤ n) (h0 : 0 ≤ x) (h1 : x ≤ 255) (hc : w.cell? ⟨b, off, none⟩ = some (.int .u8 x)) :
    Calls Tryd.prog 45 #[.string (kdB 1), .slice (some ⟨b, off, none⟩) n c] w fun e w' => e = .returned (.tuple #[.int .i64 x, .int .i64 1, .bool true]) ∧ w = w' := by
  show Calls Tryd.prog 45 #[.string ⟨#[117]⟩, .slice (some ⟨b, off, none⟩) n c] w _
  go_enter Tryd.func45, Tryd.ntmps45
  go_wp2_with fail
  go_ret3
  exact ⟨rfl, rfl⟩

theorem operand_s (b off n c : Nat) (x : Int) (w : World) (hn : 1 ≤ n) (h0 : 0 ≤ x) (h1 : x ≤ 255) (hc : w.cell? ⟨b, off, none⟩ = some (.int .u8 x)) :
    Calls Tryd.prog 45 #[.string (kdB 2), .slice (some ⟨b, off, none⟩) n c] w fun e w' => e = .returned (.tuple #[.int .i64 (s8 x), .int .i64 1, .bool true]) ∧ w = w' := by
  show Calls Tryd.prog 45 #[.string ⟨#[115]⟩, .slice (some ⟨b, off, none⟩) n c] w _
  go_enter Tryd.func45, Tryd.ntmps45
  go_wp2_with fail
  go_ret3
  refine ⟨?_, rfl⟩
  rw [← wrap_s8 x h0 h1]
  rfl

theorem operand_o (b off n c : Nat) (x y : Int) (w : World) (hn : 2 ≤ n) (h0 : 0 ≤ x) (h1 : x ≤ 255) (h2 : 0 ≤ y) (h3 : y ≤ 255) (hc : w.cell? ⟨b, off, none⟩ = some (.int .u8 x)) (hd : w.cell? ⟨b, off + 1, none⟩ = some (.int .u8 y)) :
    Calls Tryd.prog 45 #[.string (kdB 3), .slice (some ⟨b, off, none⟩) n c] w fun e w' => e = .returned (.tuple #[.int .i64 (s16 x y), .int .i64 2, .bool true]) ∧ w.drew = w' := by
  show Calls Tryd.prog 45 #[.string ⟨#[111]⟩, .slice (some ⟨b, off, none⟩) n c] w _
  go_enter Tryd.func45, Tryd.ntmps45
  go_wp2_with fail
  go_region
  go_wp2_with fail
  go_ret3
  refine ⟨?_, rfl⟩
  rw [← wrap_s16 x y h0 h1 h2 h3]
  rfl
end Go.Proofs.YtkphijabhoppnaaDoor
