/- The law of lines (brazierlaw5.TextLines) walked. -/
import Derived.Test.YtkphijabhoppnaaGreatDoorALq
import Derived.Test.YtkphijabhoppnaaGreatDoorALh
import Derived.Deep.RegionHeld3
namespace Go.Proofs.YtkphijabhoppnaaGreatDoor
open Go.RowKit Go.Shelf Go.Proofs.YtkphijabhoppnaaGreatDoorW.PrintWords
open Go.Proofs.YtkphijabhoppnaaGreatDoor.PTextPrograms
set_option linter.unusedSimpArgs false
set_option linter.unusedVariables false
theorem word_nil : wordS [] = [] := by decide +kernel
theorem parse_ps (w : World) (line : List UInt8) (e : Ending) (w' : World) (h : ParPost w line e w') :
    ∃ (r : IR) (f : Int), e = .returned (.tuple #[.agg (irC r), .int .i64 f]) ∧ ParS line r f ∧ Below w.heap.size w w' := by
  obtain ⟨r, f, he, h, hb⟩ := h
  refine ⟨r, f, he, ?_, hb⟩
  rcases h with ⟨op, hop, hw, hr, hi, hf⟩ | ⟨hno, hr, hf⟩
  · left
    have hne : nm5 (op : Int) ≠ [] := (nm_facts op hop).1
    by_cases hok : okI r
    · rw [insS, if_pos hok] at hi
      exact ⟨hok, hi, hf⟩
    · rw [insS, if_neg hok] at hi
      rw [← hi, word_nil] at hw
      exact absurd hw hne
  · right
    refine ⟨fun i hi e => ?_, hr, hf⟩
    have hop := hi.1
    have h1 := word_back i hi
    have h2 := read_back i hi
    have hoo : ((i.op.toNat : Nat) : Int) = i.op := by omega
    refine hno i.op.toNat (by omega) ?_ ?_
    · rw [hoo, ← h1, e]
    · rw [hoo, ← e, h2, insS, if_pos hi]
theorem Parse_calls2 (s : ByteArray) (w : World) (hG : GlobT w) (hs : s.size ≤ 1000000) (r : IR) (f : Int) (hp : ParS s.data.toList r f) :
    Calls Tryz.prog 13 #[.string s] w fun e w' => e = .returned (.tuple #[.agg (irC r), .int .i64 f]) ∧ Below w.heap.size w w' := by
  refine (Parse_calls s w hG hs).mono ?_
  intro e w' h
  obtain ⟨r', f', rfl, h1, h2⟩ := parse_ps _ _ _ _ h
  obtain ⟨rfl, rfl⟩ := h1.det hp
  exact ⟨rfl, h2⟩
def k1 : List UInt8 := [115, 116, 120, 114, 32, 120, 49, 44, 32, 120, 50, 44, 32, 120, 51]
def k2 : List UInt8 := [97, 100, 100, 105, 32, 115, 112, 44, 32, 115, 112, 44, 32, 35, 49, 54]
def k3 : List UInt8 := [98, 46, 32, 49, 44, 32, 35, 45, 56]
theorem k1_ps : ParS k1 ⟨36, 1, 3, 2, 0, 0, 0⟩ 0 := .inl ⟨by decide +kernel, by decide +kernel, rfl⟩
theorem k2_ins : insS ⟨4, 31, 31, 0, 0, 0, 16⟩ = k2 := by decide +kernel
theorem k3_ins : insS ⟨21, 0, 0, 0, 0, 1, -8⟩ = k3 := by decide +kernel
theorem k1_list : (⟨#[115, 116, 120, 114, 32, 120, 49, 44, 32, 120, 50, 44, 32, 120, 51]⟩ : ByteArray).data.toList = k1 := rfl
theorem k1_calls (w : World) (hG : GlobT w) : Calls Tryz.prog 13 #[.string ⟨#[115, 116, 120, 114, 32, 120, 49, 44, 32, 120, 50, 44, 32, 120, 51]⟩] w fun e w' => e = .returned (.tuple #[.agg (irC ⟨36, 1, 3, 2, 0, 0, 0⟩), .int .i64 0]) ∧ Below w.heap.size w w' :=
  Parse_calls2 _ w hG (by show 15 ≤ 1000000; omega) ⟨36, 1, 3, 2, 0, 0, 0⟩ 0 (by rw [k1_list]; exact k1_ps)
set_option maxHeartbeats 2000000 in
set_option maxRecDepth 100000 in
theorem known5_calls (w : World) (hG : GlobT w) : Calls Tryz.prog 5 #[] w fun e w' => e = .returned (.bool true) ∧ Below w.heap.size w w' := by
  have HG := Lib.hid hG
  have HP : Hid (∀ W, GlobT W → Calls Tryz.prog 13 #[.string ⟨#[115, 116, 120, 114, 32, 120, 49, 44, 32, 120, 50, 44, 32, 120, 51]⟩] W fun e w' => e = .returned (.tuple #[.agg #[.int .i64 36, .int .i64 1, .int .i64 3, .int .i64 2, .int .i64 0, .int .i64 0, .int .i64 0], .int .i64 0]) ∧ Below W.heap.size W w') :=
    Lib.hid (fun W hW => k1_calls W hW)
  have HI : Hid (∀ W, GlobT W → Calls Tryz.prog 14 #[.agg #[.int .i64 4, .int .i64 31, .int .i64 31, .int .i64 0, .int .i64 0, .int .i64 0, .int .i64 16]] W fun e w' => e = .returned (.string ⟨#[97, 100, 100, 105, 32, 115, 112, 44, 32, 115, 112, 44, 32, 35, 49, 54]⟩) ∧ Below W.heap.size W w') :=
    Lib.hid (fun W hW => by have := Ins_calls ⟨4, 31, 31, 0, 0, 0, 16⟩ W hW; rw [k2_ins] at this; exact this)
  have HJ : Hid (∀ W, GlobT W → Calls Tryz.prog 14 #[.agg #[.int .i64 21, .int .i64 0, .int .i64 0, .int .i64 0, .int .i64 0, .int .i64 1, .int .i64 (-8)]] W fun e w' => e = .returned (.string ⟨#[98, 46, 32, 49, 44, 32, 35, 45, 56]⟩) ∧ Below W.heap.size W w') :=
    Lib.hid (fun W hW => by have := Ins_calls ⟨21, 0, 0, 0, 0, 1, -8⟩ W hW; rw [k3_ins] at this; exact this)
  clear hG
  go_enter Tryz.func5, Tryz.ntmps5
  go_wp2_with (first | (go_at_call 13; refine (HP.out _ HG.out).mono ?_; rintro e w1 ⟨rfl, hb1⟩; have HB1 := Lib.hid (hb1.alloc hb1.size (.cells #[.int .i64 36, .int .i64 1, .int .i64 3, .int .i64 2, .int .i64 0, .int .i64 0, .int .i64 0] 39)); clear hb1) | (go_at_call 14; with_reducible refine (HI.out _ (HG.out.below HB1.out)).mono ?_; rintro e w2 ⟨rfl, hb2⟩; have HB2 := Lib.hid (HB1.out.trans (hb2.mono HB1.out.size)); clear hb2) | (go_at_call 14; with_reducible refine (HJ.out _ (HG.out.below HB2.out)).mono ?_; rintro e w3 ⟨rfl, hb3⟩) | fail)
  go_ret
  exact ⟨rfl, HB2.out.trans (hb3.mono HB2.out.size)⟩
end Go.Proofs.YtkphijabhoppnaaGreatDoor
