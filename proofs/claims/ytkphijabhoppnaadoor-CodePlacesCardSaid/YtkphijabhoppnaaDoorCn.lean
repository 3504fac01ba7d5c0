/- The chapter's examples (brazier/brazierlaw13.known): true. -/
import Derived.Test.YtkphijabhoppnaaDoorCm
namespace Go.Proofs.YtkphijabhoppnaaDoor
open Go.RowKit
set_option linter.unusedSimpArgs false
set_option linter.unusedVariables false

theorem byt_lit (w : World) (l : List Int) (hl : l ≠ []) (hby : ∀ x ∈ l, 0 ≤ x ∧ x ≤ 255) (hm : l.length ≤ 1000000) :
    Byt (w.alloc (.cells (l.map (Value.int .u8)).toArray 5)) (.slice (some ⟨w.heap.size, 0, none⟩) l.length l.length) l := by
  refine ⟨_, _, rfl, Nat.le_refl _, by omega, hby, fun _ => ⟨_, _, rfl, fun j hj => ?_⟩⟩
  have hj' : (0 + j) < (l.map (Value.int .u8)).toArray.size := by simpa using hj
  rw [cell_of_row _ _ (0 + j) _ _ _ (heap_alloc_new w _), Array.getElem?_eq_getElem hj']
  simp [List.getElem?_eq_getElem hj]

theorem known_read : readS [26, 254, 255] 0 = ⟨26, -2, 0, 3, 0⟩ := by
  rfl
theorem known_text : textS [2, 255] = ([115, 109, 97, 108, 108, 32, 45, 49, 10], 0) := by
  have h1 : opsL [2, 255] = [(0, ⟨2, -1, 0, 2, 0⟩)] := by rfl
  have h2 : placesS [2, 255] = ([0], 0) := by
    have e : endO [(0, (⟨2, -1, 0, 2, 0⟩ : Rd))] = 2 := by simp [endO, wrap64]
    unfold placesS
    rw [h1, e]
    rfl
  unfold textS
  rw [h2, h1, if_pos rfl]
  have h3 : nmC 2 = [115, 109, 97, 108, 108] := by decide +kernel
  have h4 : opk 2 = 2 := by rfl
  have h5 : Lib.itoa (-1) = [45, 49] := by
    unfold Lib.itoa
    rw [if_pos (by omega)]
    show 45 :: Lib.decDigits 1 = _
    rw [Lib.decDigits]
    rfl
  simp [lineT, h3, h4, tailT, h5]

set_option maxHeartbeats 1000000 in
theorem known_calls (w : World) (hG : Glob w) : Calls Tryd.prog 12 #[] w fun e w' => e = .returned (.bool true) ∧ Below w.heap.size w w' := by
  have HG := Lib.hid hG
  clear hG
  have hb1 := byt_lit w [26, 254, 255] (by simp) (by decide) (by decide)
  have hr : Calls Tryd.prog 13 #[.slice (some ⟨w.heap.size, 0, none⟩) 3 3, .int .i64 0] (w.alloc (.cells #[.int .u8 26, .int .u8 254, .int .u8 255] 5)) fun e w' => e = .returned (Rd.val ⟨26, -2, 0, 3, 0⟩) ∧ Below (w.alloc (.cells #[.int .u8 26, .int .u8 254, .int .u8 255] 5)).heap.size (w.alloc (.cells #[.int .u8 26, .int .u8 254, .int .u8 255] 5)) w' := by
    have := read_calls _ _ 0 _ (HG.out.below ((Below.refl w.heap.size w).alloc (Nat.le_refl _) _)) hb1
    rw [known_read] at this
    exact this
  have ht : ∀ (w1 : World) (g : Nat), g = w1.heap.size → Glob w1 → Calls Tryd.prog 18 #[.slice (some ⟨g, 0, none⟩) 2 2] (w1.alloc (.cells #[.int .u8 2, .int .u8 255] 5)) fun e w' => e = .returned (.tuple #[.string ⟨#[115, 109, 97, 108, 108, 32, 45, 49, 10]⟩, .int .i64 0]) ∧ Below w1.heap.size w1 w' := by
    rintro w1 g rfl h1
    have hb := (Below.refl w1.heap.size w1).alloc (Nat.le_refl _) (.cells #[.int .u8 2, .int .u8 255] 5)
    refine (text_calls _ _ _ (by decide) (byt_lit w1 [2, 255] (by simp) (by decide) (by decide)) (h1.below hb)).mono ?_
    unfold TxPost
    rw [known_text]
    rintro e w' ⟨rfl, h⟩
    exact ⟨rfl, hb.trans (h.mono (by simp))⟩
  have HR := Lib.hid hr
  have HT := Lib.hid ht
  clear hb1 hr ht
  go_enter Tryd.func12, Tryd.ntmps12
  go_wp2_with (first | (go_at_call 13; refine HR.out.mono ?_; rintro e w1 ⟨rfl, hb1⟩; unfold Rd.val; dsimp only; have hbw : Below w.heap.size w w1 := ((Below.refl _ w).alloc (Nat.le_refl _) _).trans (hb1.mono (by simp)); have HB1 := Lib.hid hbw; clear hb1 hbw) | fail)
  have HW := Lib.hid ((HB1.out.alloc HB1.out.size) (.cells #[.int .i64 26, .int .i64 (-2), .int .i64 0, .int .i64 3] 25))
  have HT2 := Lib.hid (HT.out (w1.alloc (.cells #[.int .i64 26, .int .i64 (-2), .int .i64 0, .int .i64 3] 25)) (w1.heap.size + 1) (by simp) (HG.out.below HW.out))
  refine HT2.out.mono ?_
  rintro e w2 ⟨rfl, hb2⟩
  have hrow := row_kept hb2 (heap_alloc_new w1 _)
  have c0 := (cell_of_row _ _ 0 _ _ _ hrow).trans rfl
  have c1 := (cell_of_row _ _ 1 _ _ _ hrow).trans rfl
  have c2 := (cell_of_row _ _ 2 _ _ _ hrow).trans rfl
  have c3 := (cell_of_row _ _ 3 _ _ _ hrow).trans rfl
  have HB2 := Lib.hid (HW.out.trans (hb2.mono HW.out.size))
  clear hb2 hrow
  go_wp2_with fail
  go_ret
  exact ⟨rfl, HB2.out⟩
end Go.Proofs.YtkphijabhoppnaaDoor
