/- The table of words of package code, and its parts. -/
import Derived.Test.YtkphijabhoppnaaDoorProg
import Derived.WalkKit
import Derived.WalkSpells
import Derived.WalkLawsBesides
import Derived.Outline
import Derived.Laws.Rows
import Derived.Laws.Tables
import Derived.Laws.ResultCell
import Derived.Lib.Fields
import Derived.Lib.LaidTab
import Derived.KernelRfl
namespace Go.Proofs.YtkphijabhoppnaaDoor
open Go.RowKit

/-- The words as bytes, as the function lays them. -/
def wordsL : List (List UInt8) := [
  [110, 111, 112],
  [99, 111, 110, 115, 116, 32, 117],
  [115, 109, 97, 108, 108, 32, 115],
  [110, 117, 108, 108],
  [103, 101, 116, 32, 117],
  [115, 101, 116, 32, 117],
  [100, 117, 112],
  [100, 114, 111, 112],
  [115, 119, 97, 112],
  [97, 100, 100],
  [115, 117, 98],
  [109, 117, 108],
  [100, 105, 118],
  [114, 101, 109],
  [97, 110, 100],
  [111, 114],
  [120, 111, 114],
  [115, 104, 108],
  [115, 104, 114],
  [117, 115, 104, 114],
  [110, 101, 103],
  [108, 116],
  [101, 113],
  [115, 97, 109, 101],
  [105, 115, 110, 117, 108, 108],
  [106, 117, 109, 112, 32, 111],
  [105, 102, 32, 111],
  [99, 97, 108, 108, 32, 117],
  [114, 101, 116],
  [110, 101, 119, 32, 117],
  [103, 101, 116, 102, 32, 117, 32, 117],
  [112, 117, 116, 102, 32, 117, 32, 117],
  [110, 101, 119, 97, 32, 117],
  [103, 101, 116, 97, 32, 117],
  [112, 117, 116, 97, 32, 117],
  [108, 101, 110],
  [101, 110, 116, 101, 114],
  [101, 120, 105, 116],
  [115, 112, 97, 119, 110, 32, 117],
  [106, 111, 105, 110],
  [112, 114, 105, 110, 116]]
def wordsA : Array Value := (wordsL.map fun l => Value.string ⟨l.toArray⟩).toArray
theorem wordsA_size : wordsA.size = 41 := rfl
theorem zero163 : ∃ z, (Tryd.prog.info? 163).map (fun i => (i.zero, i.size)) = some (some z, 41) ∧ z.cells.size = 41 := ⟨.agg (Array.replicate 41 (.string ByteArray.empty)), by kernel_rfl, by kernel_rfl⟩

theorem below_setRow {B : Nat} {a w : World} (h : Below B a w) {g : Nat} (hp : B ≤ g) (cs : Array Value) : Below B a (w.setRow g cs) :=
  ⟨h.os, h.tape, h.output, by simpa [World.setRow] using h.size, fun k hk => by
    rw [← h.block k hk]
    simp only [World.setRow, Array.getElem?_modify]
    rw [if_neg (by omega)]⟩

set_option maxHeartbeats 800000 in
set_option maxRecDepth 100000 in
theorem words_calls (w : World) : Calls Tryd.prog 85 #[] w fun e w' => Below w.heap.size w w' ∧ e = .returned (.agg wordsA) := by
  go_enter Tryd.func85, Tryd.ntmps85
  have hB : ∀ v, (Tryd.prog.built 163 v).getD #[] = wordsA → (Tryd.prog.built 163 v).getD #[] = wordsA := fun _ h => h
  go_wp2_with (first | (refine wpList_build rfl 163 _ rfl (by as_aux_lemma => kernel_rfl) ?_; rw [hB _ (by as_aux_lemma => kernel_rfl)]; clear hB) | (refine wpList_store_row rfl 163 _ _ rfl w.heap.size wordsA rfl rfl 163 _ (heap_alloc_new w _) (by as_aux_lemma => kernel_rfl) (by as_aux_lemma => kernel_rfl) (by as_aux_lemma => kernel_rfl) ?_) | fail)
  refine bodyPost_ret (v := .agg wordsA) (results_cell_row (fn := Tryd.f85) rfl _ _ w.heap.size 163 wordsA (0, 0) _ rfl (setRow_heap _ _ _ _ _ _ (heap_alloc_new w _)) Tryd.underlying163 rfl (by as_aux_lemma => kernel_rfl)) rfl ⟨?_, rfl⟩
  exact below_setRow ((Below.refl _ _).alloc (Nat.le_refl _) _) (Nat.le_refl _) _
end Go.Proofs.YtkphijabhoppnaaDoor
