/- The words of package code, their parts, names, operands; the plain ways of code.Read. -/
import Derived.Test.YtkphijabhoppnaaDoorProg
import Derived.WalkKit
import Derived.WalkSpells
import Derived.WalkLawsBesides
import Derived.Outline
import Derived.Laws.Rows
import Derived.Laws.Tables
import Derived.Laws.ResultCell
import Derived.Lib.Fields
import Derived.Lib.LaidTab
import Derived.KernelRfl
import Derived.Test.YtkphijabhoppnaaDoorAShelf
import Derived.Lib.Hide
import Derived.Deep.QuietTactic
import Derived.BigQuiet
import Derived.Laws.BitsAllLaws
namespace Go.Proofs.YtkphijabhoppnaaDoor
open Go.RowKit
def wordsL : List (List UInt8) := [
  [110, 111, 112],
  [99, 111, 110, 115, 116, 32, 117],
  [115, 109, 97, 108, 108, 32, 115],
  [110, 117, 108, 108],
  [103, 101, 116, 32, 117],
  [115, 101, 116, 32, 117],
  [100, 117, 112],
  [100, 114, 111, 112],
  [115, 119, 97, 112],
  [97, 100, 100],
  [115, 117, 98],
  [109, 117, 108],
  [100, 105, 118],
  [114, 101, 109],
  [97, 110, 100],
  [111, 114],
  [120, 111, 114],
  [115, 104, 108],
  [115, 104, 114],
  [117, 115, 104, 114],
  [110, 101, 103],
  [108, 116],
  [101, 113],
  [115, 97, 109, 101],
  [105, 115, 110, 117, 108, 108],
  [106, 117, 109, 112, 32, 111],
  [105, 102, 32, 111],
  [99, 97, 108, 108, 32, 117],
  [114, 101, 116],
  [110, 101, 119, 32, 117],
  [103, 101, 116, 102, 32, 117, 32, 117],
  [112, 117, 116, 102, 32, 117, 32, 117],
  [110, 101, 119, 97, 32, 117],
  [103, 101, 116, 97, 32, 117],
  [112, 117, 116, 97, 32, 117],
  [108, 101, 110],
  [101, 110, 116, 101, 114],
  [101, 120, 105, 116],
  [115, 112, 97, 119, 110, 32, 117],
  [106, 111, 105, 110],
  [112, 114, 105, 110, 116]]
def wordsA : Array Value := (wordsL.map fun l => Value.string ⟨l.toArray⟩).toArray
theorem below_setRow {B : Nat} {a w : World} (h : Below B a w) {g : Nat} (hp : B ≤ g) (cs : Array Value) : Below B a (w.setRow g cs) :=
  ⟨h.os, h.tape, h.output, by simpa [World.setRow] using h.size, fun k hk => by
    rw [← h.block k hk]
    simp only [World.setRow, Array.getElem?_modify]
    rw [if_neg (by omega)]⟩
set_option maxHeartbeats 800000 in
set_option maxRecDepth 100000 in
theorem words_calls (w : World) : Calls Tryd.prog 85 #[] w fun e w' => Below w.heap.size w w' ∧ e = .returned (.agg wordsA) := by
  go_enter Tryd.func85, Tryd.ntmps85
  have hB : ∀ v, (Tryd.prog.built 163 v).getD #[] = wordsA → (Tryd.prog.built 163 v).getD #[] = wordsA := fun _ h => h
  go_wp2_with (first | (refine wpList_build rfl 163 _ rfl (by as_aux_lemma => kernel_rfl) ?_; rw [hB _ (by as_aux_lemma => kernel_rfl)]; clear hB) | (refine wpList_store_row rfl 163 _ _ rfl w.heap.size wordsA rfl rfl 163 _ (heap_alloc_new w _) (by as_aux_lemma => kernel_rfl) (by as_aux_lemma => kernel_rfl) (by as_aux_lemma => kernel_rfl) ?_) | fail)
  refine bodyPost_ret (v := .agg wordsA) (results_cell_row (fn := Tryd.f85) rfl _ _ w.heap.size 163 wordsA (0, 0) _ rfl (setRow_heap _ _ _ _ _ _ (heap_alloc_new w _)) Tryd.underlying163 rfl (by as_aux_lemma => kernel_rfl)) rfl ⟨?_, rfl⟩
  exact below_setRow ((Below.refl _ _).alloc (Nat.le_refl _) _) (Nat.le_refl _) _
end Go.Proofs.YtkphijabhoppnaaDoor
namespace Go.Proofs.YtkphijabhoppnaaDoor
open Go.RowKit
set_option linter.unusedSimpArgs false
set_option linter.unusedVariables false
structure Glob (w : World) : Prop where
  sp : Lib.TabIs Tryd.prog w "strings.asciiSpace" .u8 Lib.asciiSpaceTab
def opk (c : Int) : Nat :=
  if c = 1 ∨ c = 4 ∨ c = 5 ∨ c = 27 ∨ c = 29 ∨ c = 32 ∨ c = 33 ∨ c = 34 ∨ c = 38 then 1
  else if c = 2 then 2 else if c = 25 ∨ c = 26 then 3 else if c = 30 ∨ c = 31 then 4 else 0
def ksK : Nat → List (List UInt8)
  | 1 => [[117]] | 2 => [[115]] | 3 => [[111]] | 4 => [[117], [117]] | _ => []
def nmC (c : Int) : List UInt8 := ((Lib.fields (wordsL.getD c.toNat [])).headD [])
theorem fields_words : ∀ n : Nat, n < 41 → Lib.fields (wordsL.getD n []) = nmC n :: ksK (opk n) := by
  decide +kernel
theorem words_ascii : ∀ n : Nat, n < 41 → (wordsL.getD n []).all (fun b => b.toNat < 128) = true ∧ (wordsL.getD n []).length ≤ 8 := by
  decide +kernel
def wordB (n : Nat) : ByteArray := ⟨(wordsL.getD n []).toArray⟩
theorem wordsA_at (n : Nat) (h : n < 41) : wordsA[n]? = some (.string (wordB n)) := by
  have hl : n < wordsL.length := h
  unfold wordsA wordB
  simp [hl]
theorem run_index_words (c : Nat) (h : c < 41) (w : World) :
    (Instr.index 163 (.agg wordsA) (.int .i64 c)).run Tryd.prog w = .ok (.string (wordB c)) w := by
  have hu := run_underlying (P := Tryd.prog) Tryd.underlying163
  have ha := wordsA_at c h
  have hagg : (isAgg 9).run Tryd.prog w = .ok false w := by kernel_rfl
  have hsz : (sizeOf 9).run Tryd.prog w = .ok 1 w := by kernel_rfl
  have hp : (part 9 wordsA c).run Tryd.prog w = .ok (.string (wordB c)) w := by
    unfold part
    simp only [Sem.run_bind, hagg, Result.andThen_ok, ha]
    rfl
  have e1 : (Instr.index 163 (.agg wordsA) (.int .i64 c)).run Tryd.prog w = (part 9 wordsA c).run Tryd.prog w := by
    unfold Instr.index
    simp [asIntOf, hu, h, hsz]
  rw [e1, hp]
theorem tab_below {w w' : World} {nm : String} {k : IntKind} {zs : List Int} (h : Lib.TabIs Tryd.prog w nm k zs) (hb : Below w.heap.size w w') : Lib.TabIs Tryd.prog w' nm k zs := by
  unfold Lib.TabIs at h ⊢
  cases hg : Tryd.prog.globalNamed nm with
  | none => simp [World.var?, hg] at h
  | some g =>
    refine var?_below hb hg ?_ h
    simp only [World.var?, hg, Option.bind_some] at h
    rcases Nat.lt_or_ge g w.heap.size with h' | h'
    · exact h'
    · rw [Array.getElem?_eq_none h'] at h
      cases h
theorem Glob.below {w w' : World} (h : Glob w) (hb : Below w.heap.size w w') : Glob w' := ⟨tab_below h.sp hb⟩
theorem wordB_size (n : Nat) (h : n < 41) : (wordB n).size < 4294967281 := by
  have := (words_ascii n h).2
  show (wordsL.getD n []).toArray.size < _
  simp only [List.size_toArray]
  omega
theorem wordB_ascii (n : Nat) (h : n < 41) : ∀ (j : Nat) b, (wordB n).data.toList[j]? = some b → b.toNat < 128 := by
  intro j b hb
  have h1 := (words_ascii n h).1
  rw [List.all_eq_true] at h1
  have := h1 b (List.mem_of_getElem? hb)
  simpa using this
def PartsPost (w : World) (c k : Nat) (e : Ending) (w' : World) : Prop :=
  Below w.heap.size w w' ∧ ∃ b off cap, w.heap.size ≤ b ∧ e = .returned (.tuple #[.string ⟨(nmC c).toArray⟩, .slice (some ⟨b, off, none⟩) (ksK k).length cap]) ∧
    ∀ j l, (ksK k)[j]? = some l → w'.cell? ⟨b, off + j, none⟩ = some (.string ⟨l.toArray⟩)
theorem cell_alloc_drew (w : World) (cs : Array Value) (t j : Nat) : (w.alloc (.cells cs t)).drew.cell? ⟨w.heap.size, j, none⟩ = cs[j]? :=
  cell_of_row _ _ _ _ _ _ (heap_alloc_new w _)
theorem fields_laid (c k : Nat) (h : c < 41) (hk : opk c = k) (w : World) (hG : Glob w) :
    Calls Tryd.prog 84 #[.string (wordB c)] w fun e w' => e = .returned (.slice (some ⟨w.heap.size, 0, none⟩) ((ksK k).length + 1) ((ksK k).length + 1)) ∧
      w.alloc (.cells (Value.string ⟨(nmC c).toArray⟩ :: (ksK k).map fun l => Value.string ⟨l.toArray⟩).toArray 9) = w' := by
  refine (Tryd.strings_Fields_laid (wordB c) w (wordB_size c h) (wordB_ascii c h) hG.sp).mono ?_
  have hf := fields_words c h
  rintro e w' ⟨rfl, rfl⟩
  have : (wordB c).data.toList = wordsL.getD c [] := rfl
  rw [this, hf, hk]
  exact ⟨by simp, by simp⟩
theorem opk_le (c : Int) : opk c = 0 ∨ opk c = 1 ∨ opk c = 2 ∨ opk c = 3 ∨ opk c = 4 := by
  unfold opk
  split <;> (try split) <;> (try split) <;> (try split) <;> simp
set_option maxHeartbeats 800000 in
set_option maxRecDepth 100000 in
theorem parts_in (c : Nat) (h1 : c ≤ 40) (w : World) (hG : Glob w) : Calls Tryd.prog 44 #[.int .i64 c] w (PartsPost w c (opk c)) := by
  have HG := Lib.hid hG
  clear hG
  have t1 : decide ((c : Int) < 0) = false := by simp
  have t2 : decide ((40 : Int) < c) = false := by simp; omega
  have hix := run_index_words c (by omega)
  obtain ⟨k, hk⟩ : ∃ k, opk c = k := ⟨_, rfl⟩
  have hk4 := opk_le c
  rw [hk] at hk4 ⊢
  have HK := Lib.hid hk
  clear hk
  have hp : ∀ b off cap nm, PartsPost w c k (.returned (.tuple #[.string ⟨(nmC c).toArray⟩, .slice (some ⟨b, off, none⟩) (ksK k).length cap])) nm ↔ PartsPost w c k (.returned (.tuple #[.string ⟨(nmC c).toArray⟩, .slice (some ⟨b, off, none⟩) (ksK k).length cap])) nm := fun _ _ _ _ => Iff.rfl
  clear hp
  rcases hk4 with rfl | rfl | rfl | rfl | rfl
  all_goals
    go_enter Tryd.func44, Tryd.ntmps44
    go_wp2_with (first | (go_at_call 85; refine (words_calls _).mono ?_; rintro e w1 ⟨hb1, rfl⟩) | (go_at_call 84; refine (fields_laid c _ (by omega) HK.out _ (HG.out.below hb1)).mono ?_; rintro e w2 ⟨rfl, rfl⟩; simp only [ksK, List.length_cons, List.length_nil, Nat.zero_add, Nat.reduceAdd, List.map_cons, List.map_nil]) | fail)
    go_region
    all_goals (go_wp2; go_ret2)
    all_goals refine ⟨(hb1.alloc hb1.size _).drew, w1.heap.size, _, _, hb1.size, rfl, ?_⟩
    all_goals
      intro j l hj
      rw [cell_alloc_drew]
      rcases j with _ | _ | j <;> simp [ksK] at hj ⊢ <;> exact hj
theorem parts_out (c : Int) (h1 : c < 0 ∨ 40 < c) (w : World) : Calls Tryd.prog 44 #[.int .i64 c] w fun e w' => e = .returned (.tuple #[.string ⟨#[]⟩, .slice none 0 0]) ∧ w = w' := by
  by_cases h0 : c < 0
  · go_enter Tryd.func44, Tryd.ntmps44
    go_wp2_with fail
    all_goals (go_ret2; exact ⟨rfl, rfl⟩)
  · have h2 : 40 < c := by omega
    go_enter Tryd.func44, Tryd.ntmps44
    go_wp2_with fail
    all_goals (go_ret2; exact ⟨rfl, rfl⟩)
end Go.Proofs.YtkphijabhoppnaaDoor
namespace Go.Proofs.YtkphijabhoppnaaDoor
open Go.RowKit
set_option linter.unusedSimpArgs false
set_option linter.unusedVariables false
def szK (k : Nat) : Nat := if k = 3 then 2 else 1
def kdB (k : Nat) : ByteArray := if k = 1 then ⟨#[117]⟩ else if k = 2 then ⟨#[115]⟩ else ⟨#[111]⟩
def s8 (x : Int) : Int := if x < 128 then x else x - 256
def s16 (x y : Int) : Int := if y < 128 then x + 256 * y else x + 256 * y - 65536
theorem wrap_s8 (x : Int) (h0 : 0 ≤ x) (h1 : x ≤ 255) : wrap64 (IntKind.i8.wrap x) = s8 x := by
  have e : IntKind.i8.wrap x = s8 x := by
    simp only [IntKind.wrap, IntKind.signed, IntKind.bits, s8, Bool.true_and, decide_eq_true_eq, show (2 : Int) ^ 8 = 256 from rfl, show (2 : Int) ^ (8 - 1) = 128 from rfl]
    by_cases h : x < 128
    · rw [if_pos h, if_neg (by omega)]; omega
    · rw [if_neg h, if_pos (by omega)]; omega
  rw [e]
  unfold wrap64 s8
  split <;> omega
theorem wrap_s16 (x y : Int) (h0 : 0 ≤ x) (h1 : x ≤ 255) (h2 : 0 ≤ y) (h3 : y ≤ 255) : wrap64 (IntKind.i16.wrap (bits .or .u16 x (y * 256))) = s16 x y := by
  have eb : bits .or .u16 x (y * 256) = x + 256 * y := by
    rw [u16_or x (y * 256) h0 (by omega) (by omega) (by omega), nat_join8' _ _ (by omega) (by omega)]
    omega
  rw [eb]
  have e : IntKind.i16.wrap (x + 256 * y) = s16 x y := by
    simp only [IntKind.wrap, IntKind.signed, IntKind.bits, s16, Bool.true_and, decide_eq_true_eq, show (2 : Int) ^ 16 = 65536 from rfl, show (2 : Int) ^ (16 - 1) = 32768 from rfl]
    by_cases h : y < 128
    · rw [if_pos h, if_neg (by omega)]; omega
    · rw [if_neg h, if_pos (by omega)]; omega
  rw [e]
  unfold wrap64 s16
  split <;> omega
theorem operand_short (k : Nat) (A : Option Addr) (n c : Nat) (w : World) (hn : n < szK k) (hk : k = 1 ∨ k = 2 ∨ k = 3) :
    Calls Tryd.prog 45 #[.string (kdB k), .slice A n c] w fun e w' => e = .returned (.tuple #[.int .i64 0, .int .i64 0, .bool false]) ∧ w = w' := by
  rcases hk with rfl | rfl | rfl
  · obtain rfl : n = 0 := by simp [szK] at hn; exact hn
    clear hn
    show Calls Tryd.prog 45 #[.string ⟨#[117]⟩, .slice A (0 : Nat) c] w _
    go_enter Tryd.func45, Tryd.ntmps45
    go_wp2_with fail
    go_ret3
    exact ⟨rfl, rfl⟩
  · obtain rfl : n = 0 := by simp [szK] at hn; exact hn
    clear hn
    show Calls Tryd.prog 45 #[.string ⟨#[115]⟩, .slice A (0 : Nat) c] w _
    go_enter Tryd.func45, Tryd.ntmps45
    go_wp2_with fail
    go_ret3
    exact ⟨rfl, rfl⟩
  · have h2 : n < 2 := hn
    clear hn
    show Calls Tryd.prog 45 #[.string ⟨#[111]⟩, .slice A n c] w _
    go_enter Tryd.func45, Tryd.ntmps45
    go_wp2_with fail
    all_goals (go_ret3; exact ⟨rfl, rfl⟩)
theorem operand_u (b off n c : Nat) (x : Int) (w : World) (hn : 1 ≤ n) (h0 : 0 ≤ x) (h1 : x ≤ 255) (hc : w.cell? ⟨b, off, none⟩ = some (.int .u8 x)) :
    Calls Tryd.prog 45 #[.string (kdB 1), .slice (some ⟨b, off, none⟩) n c] w fun e w' => e = .returned (.tuple #[.int .i64 x, .int .i64 1, .bool true]) ∧ w = w' := by
  show Calls Tryd.prog 45 #[.string ⟨#[117]⟩, .slice (some ⟨b, off, none⟩) n c] w _
  go_enter Tryd.func45, Tryd.ntmps45
  go_wp2_with fail
  go_ret3
  exact ⟨rfl, rfl⟩
theorem operand_s (b off n c : Nat) (x : Int) (w : World) (hn : 1 ≤ n) (h0 : 0 ≤ x) (h1 : x ≤ 255) (hc : w.cell? ⟨b, off, none⟩ = some (.int .u8 x)) :
    Calls Tryd.prog 45 #[.string (kdB 2), .slice (some ⟨b, off, none⟩) n c] w fun e w' => e = .returned (.tuple #[.int .i64 (s8 x), .int .i64 1, .bool true]) ∧ w = w' := by
  show Calls Tryd.prog 45 #[.string ⟨#[115]⟩, .slice (some ⟨b, off, none⟩) n c] w _
  go_enter Tryd.func45, Tryd.ntmps45
  go_wp2_with fail
  go_ret3
  refine ⟨?_, rfl⟩
  rw [← wrap_s8 x h0 h1]
  rfl
theorem operand_o (b off n c : Nat) (x y : Int) (w : World) (hn : 2 ≤ n) (h0 : 0 ≤ x) (h1 : x ≤ 255) (h2 : 0 ≤ y) (h3 : y ≤ 255) (hc : w.cell? ⟨b, off, none⟩ = some (.int .u8 x)) (hd : w.cell? ⟨b, off + 1, none⟩ = some (.int .u8 y)) :
    Calls Tryd.prog 45 #[.string (kdB 3), .slice (some ⟨b, off, none⟩) n c] w fun e w' => e = .returned (.tuple #[.int .i64 (s16 x y), .int .i64 2, .bool true]) ∧ w.drew = w' := by
  show Calls Tryd.prog 45 #[.string ⟨#[111]⟩, .slice (some ⟨b, off, none⟩) n c] w _
  go_enter Tryd.func45, Tryd.ntmps45
  go_wp2_with fail
  go_region
  go_wp2_with fail
  go_ret3
  refine ⟨?_, rfl⟩
  rw [← wrap_s16 x y h0 h1 h2 h3]
  rfl
end Go.Proofs.YtkphijabhoppnaaDoor
namespace Go.Proofs.YtkphijabhoppnaaDoor
open Go.RowKit
set_option linter.unusedSimpArgs false
set_option linter.unusedVariables false
structure Rd where
  code : Int
  a : Int
  b : Int
  size : Int
  err : Int
def Rd.val (r : Rd) : Value := .tuple #[.agg #[.int .i64 r.code, .int .i64 r.a, .int .i64 r.b, .int .i64 r.size], .int .i64 r.err]
theorem read_arg (A : Option Addr) (n c : Nat) (at' : Int) (w : World) (h : at' < 0 ∨ (n : Int) < at') :
    Calls Tryd.prog 13 #[.slice A n c, .int .i64 at'] w fun e w' => e = .returned (Rd.val ⟨0, 0, 0, 0, 1⟩) ∧ Below w.heap.size w w' := by
  by_cases h0 : at' < 0
  · clear h
    go_enter Tryd.func13, Tryd.ntmps13
    go_wp2_with fail
    exact bodyPost_ret (v := Rd.val ⟨0, 0, 0, 0, 1⟩) (by simp [Rd.val, results, Tryd.results13, go_sem]) rfl ⟨rfl, (Below.refl _ _).alloc (Nat.le_refl _) _⟩
  · have h2 : (n : Int) < at' := by omega
    clear h
    go_enter Tryd.func13, Tryd.ntmps13
    go_wp2_with fail
    exact bodyPost_ret (v := Rd.val ⟨0, 0, 0, 0, 1⟩) (by simp [Rd.val, results, Tryd.results13, go_sem]) rfl ⟨rfl, (Below.refl _ _).alloc (Nat.le_refl _) _⟩
theorem read_end (A : Option Addr) (n c : Nat) (w : World) :
    Calls Tryd.prog 13 #[.slice A n c, .int .i64 n] w fun e w' => e = .returned (Rd.val ⟨0, 0, 0, 0, 6⟩) ∧ Below w.heap.size w w' := by
  go_enter Tryd.func13, Tryd.ntmps13
  go_wp2_with fail
  exact bodyPost_ret (v := Rd.val ⟨0, 0, 0, 0, 6⟩) (by simp [Rd.val, results, Tryd.results13, go_sem]) rfl ⟨rfl, (Below.refl _ _).alloc (Nat.le_refl _) _⟩
theorem read_form (b off n c i : Nat) (x : Int) (w : World) (hi : i < n) (hx : 40 < x) (hx1 : x ≤ 255) (hc : w.cell? ⟨b, off + i, none⟩ = some (.int .u8 x)) :
    Calls Tryd.prog 13 #[.slice (some ⟨b, off, none⟩) n c, .int .i64 i] w fun e w' => e = .returned (Rd.val ⟨0, 0, 0, 0, 5⟩) ∧ Below w.heap.size w w' := by
  have hbl := block_lt_of_cell hc
  have t1 : ((i : Int) == n) = false := by simp; omega
  go_enter Tryd.func13, Tryd.ntmps13
  go_wp2_with (first | (go_at_call 44; refine (parts_out x (.inr hx) _).mono ?_; rintro e w1 ⟨rfl, rfl⟩) | fail)
  exact bodyPost_ret (v := Rd.val ⟨0, 0, 0, 0, 5⟩) (by simp [Rd.val, results, Tryd.results13, go_sem]) rfl ⟨rfl, (Below.refl _ _).alloc (Nat.le_refl _) _⟩
theorem nm_ne' : ∀ n : Nat, n < 41 → (nmC n).isEmpty = false := by decide +kernel
theorem bcell {W w1 : World} (hb : Below W.heap.size W w1) : (∀ b o, b < W.heap.size → w1.cell? ⟨b, o, none⟩ = W.cell? ⟨b, o, none⟩) ∧ (∀ b o, b < W.heap.size → w1.frozen? ⟨b, o, none⟩ = W.frozen? ⟨b, o, none⟩) :=
  ⟨fun b o h => hb.cell (p := ⟨b, o, none⟩) h, fun b o h => hb.frozen (p := ⟨b, o, none⟩) h⟩
theorem row_kept {W w1 : World} {g : Nat} {o : Obj} (hb : Below W.heap.size W w1) (h : W.heap[g]? = some o) : w1.heap[g]? = some o :=
  (hb.block g (Array.getElem?_eq_some_iff.1 h).1).trans h
theorem row_alloc {w : World} {g : Nat} {o : Obj} (h : w.heap[g]? = some o) (p : Obj) : (w.alloc p).heap[g]? = some o :=
  (Below.heap_alloc w p g (Array.getElem?_eq_some_iff.1 h).1).trans h
theorem all4 (a b c d : Int) : (#[Value.int .i64 a, .int .i64 b, .int .i64 c, .int .i64 d].all fun x => x.oneCell') = true := by
  simp [Value.oneCell']
theorem results13 {tmps : Array Value} {W : World} {g : Nat} {fr : Nat × Nat} (r : Rd) (h4 : tmps.getD 4 undef = .pointer (some ⟨g, 0, none⟩)) (h5 : tmps.getD 5 undef = .int .i64 r.err)
    (hrow : W.heap[g]? = some (.cells #[.int .i64 r.code, .int .i64 r.a, .int .i64 r.b, .int .i64 r.size] 25 fr)) : (results Tryd.f13 tmps).run Tryd.prog W = .ok r.val W := by
  rw [results_cell_tmp (fn := Tryd.f13) rfl, h4, h5]
  simp only [asAddr, Sem.run_pure, Result.andThen_ok, run_loadVar_row W g 25 25 _ fr _ hrow Tryd.underlying25 rfl (by kernel_rfl)]
  rfl
theorem parts_k (c k : Nat) (h1 : c ≤ 40) (hk : opk c = k) (w : World) (hG : Glob w) : Calls Tryd.prog 44 #[.int .i64 c] w (PartsPost w c k) := hk ▸ parts_in c h1 w hG
theorem read_k0 (b off n c i x : Nat) (w : World) (hG : Glob w) (hi : i < n) (hx : x ≤ 40) (hk : opk x = 0) (hc : w.cell? ⟨b, off + i, none⟩ = some (.int .u8 x)) :
    Calls Tryd.prog 13 #[.slice (some ⟨b, off, none⟩) n c, .int .i64 i] w fun e w' => e = .returned (Rd.val ⟨x, 0, 0, 1, 0⟩) ∧ Below w.heap.size w w' := by
  have hbl : b < w.heap.size := block_lt_of_cell hc
  have t1 : ((i : Int) == n) = false := by simp; omega
  have HK := Lib.hid hk
  have HG := Lib.hid hG
  have hne := nm_ne' x (by omega)
  have t2 : decide ((i : Int) < 0) = false := by simp
  have t3 : decide (n < i) = false := by simp; omega
  clear hk hG
  go_enter Tryd.func13, Tryd.ntmps13
  go_wp2_with (first | (go_at_call 44; refine (parts_k x 0 hx HK.out _ (HG.out.below ((Below.refl _ _).alloc (Nat.le_refl _) _))).mono ?_; rintro e w1 ⟨hb1, b2, off2, cap2, hb2, rfl, -⟩; obtain ⟨hcw, hfw⟩ := bcell hb1; have hz1 : w.heap.size + 1 ≤ w1.heap.size := (by have := hb1.size; simp at this; omega); have hrow := row_kept hb1 (heap_alloc_new w _); have HB1 := Lib.hid hb1; clear hb1; simp only [ksK, List.length_nil]) | fail)
  refine wp_loop_rounds 1 ?_
  rw [rounds_succ]
  go_wp2_with fail
  go_region
  go_wp2_with (refine wpList_store_row rfl 25 _ _ rfl w.heap.size #[.int .i64 x, .int .i64 0, .int .i64 0, .int .i64 1] rfl rfl 25 _ (row_alloc (row_alloc hrow _) _) (by kernel_rfl) (by rfl) (all4 _ _ _ _) ?_)
  refine bodyPost_ret (v := Rd.val ⟨x, 0, 0, 1, 0⟩) (results13 ⟨x, 0, 0, 1, 0⟩ rfl rfl (setRow_heap _ _ _ _ _ _ (row_alloc (row_alloc hrow _) _))) rfl ⟨rfl, ?_⟩
  have hb3 : Below w.heap.size w w1 := ((Below.refl _ _).alloc (Nat.le_refl _) _).trans (HB1.out.mono (by simp))
  exact below_setRow (((hb3.alloc hb3.size _).alloc (by simp; omega) _).drew) (Nat.le_refl _) _
end Go.Proofs.YtkphijabhoppnaaDoor
