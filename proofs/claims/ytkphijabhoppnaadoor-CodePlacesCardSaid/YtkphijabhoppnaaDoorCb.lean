/- The parts of a bytecode's word: its name and its operands' kinds (brazier/code.parts). -/
import Derived.Test.YtkphijabhoppnaaDoorCa
import Derived.Test.YtkphijabhoppnaaDoorShelf
import Derived.Lib.Hide
namespace Go.Proofs.YtkphijabhoppnaaDoor
open Go.RowKit
set_option linter.unusedSimpArgs false
set_option linter.unusedVariables false

/-- The library's tables that the functions read. -/
structure Glob (w : World) : Prop where
  sp : Lib.TabIs Tryd.prog w "strings.asciiSpace" .u8 Lib.asciiSpaceTab
  pw : Lib.TabIs Tryd.prog w "internal/strconv.uint64pow10" .u64 Lib.pow10Tab

/-- How many and which operands: 0 none, 1 u, 2 s, 3 o, 4 u u. -/
def opk (c : Int) : Nat :=
  if c = 1 ∨ c = 4 ∨ c = 5 ∨ c = 27 ∨ c = 29 ∨ c = 32 ∨ c = 33 ∨ c = 34 ∨ c = 38 then 1
  else if c = 2 then 2 else if c = 25 ∨ c = 26 then 3 else if c = 30 ∨ c = 31 then 4 else 0
def ksK : Nat → List (List UInt8)
  | 1 => [[117]] | 2 => [[115]] | 3 => [[111]] | 4 => [[117], [117]] | _ => []
/-- A code's name. -/
def nmC (c : Int) : List UInt8 := ((Lib.fields (wordsL.getD c.toNat [])).headD [])
theorem fields_words : ∀ n : Nat, n < 41 → Lib.fields (wordsL.getD n []) = nmC n :: ksK (opk n) := by
  decide +kernel
theorem words_ascii : ∀ n : Nat, n < 41 → (wordsL.getD n []).all (fun b => b.toNat < 128) = true ∧ (wordsL.getD n []).length ≤ 8 := by
  decide +kernel
/-- The word of a code, as a string. -/
def wordB (n : Nat) : ByteArray := ⟨(wordsL.getD n []).toArray⟩
theorem wordsA_at (n : Nat) (h : n < 41) : wordsA[n]? = some (.string (wordB n)) := by
  have hl : n < wordsL.length := h
  unfold wordsA wordB
  simp [hl]

theorem run_index_words (c : Nat) (h : c < 41) (w : World) :
    (Instr.index 163 (.agg wordsA) (.int .i64 c)).run Tryd.prog w = .ok (.string (wordB c)) w := by
  have hu := run_underlying (P := Tryd.prog) Tryd.underlying163
  have ha := wordsA_at c h
  have hagg : (isAgg 9).run Tryd.prog w = .ok false w := by kernel_rfl
  have hsz : (sizeOf 9).run Tryd.prog w = .ok 1 w := by kernel_rfl
  have hp : (part 9 wordsA c).run Tryd.prog w = .ok (.string (wordB c)) w := by
    unfold part
    simp only [Sem.run_bind, hagg, Result.andThen_ok, ha]
    rfl
  have e1 : (Instr.index 163 (.agg wordsA) (.int .i64 c)).run Tryd.prog w = (part 9 wordsA c).run Tryd.prog w := by
    unfold Instr.index
    simp [asIntOf, hu, h, hsz]
  rw [e1, hp]

theorem tab_below {w w' : World} {nm : String} {k : IntKind} {zs : List Int} (h : Lib.TabIs Tryd.prog w nm k zs) (hb : Below w.heap.size w w') : Lib.TabIs Tryd.prog w' nm k zs := by
  unfold Lib.TabIs at h ⊢
  cases hg : Tryd.prog.globalNamed nm with
  | none => simp [World.var?, hg] at h
  | some g =>
    refine var?_below hb hg ?_ h
    simp only [World.var?, hg, Option.bind_some] at h
    rcases Nat.lt_or_ge g w.heap.size with h' | h'
    · exact h'
    · rw [Array.getElem?_eq_none h'] at h
      cases h
theorem Glob.below {w w' : World} (h : Glob w) (hb : Below w.heap.size w w') : Glob w' := ⟨tab_below h.sp hb, tab_below h.pw hb⟩

theorem wordB_size (n : Nat) (h : n < 41) : (wordB n).size < 4294967281 := by
  have := (words_ascii n h).2
  show (wordsL.getD n []).toArray.size < _
  simp only [List.size_toArray]
  omega
theorem wordB_ascii (n : Nat) (h : n < 41) : ∀ (j : Nat) b, (wordB n).data.toList[j]? = some b → b.toNat < 128 := by
  intro j b hb
  have h1 := (words_ascii n h).1
  rw [List.all_eq_true] at h1
  have := h1 b (List.mem_of_getElem? hb)
  simpa using this

/-- A code that there is, its operands of the kind k: its name; its operands' kinds, a slice of strings in new memory. -/
def PartsPost (w : World) (c k : Nat) (e : Ending) (w' : World) : Prop :=
  Below w.heap.size w w' ∧ ∃ b off cap, w.heap.size ≤ b ∧ e = .returned (.tuple #[.string ⟨(nmC c).toArray⟩, .slice (some ⟨b, off, none⟩) (ksK k).length cap]) ∧
    ∀ j l, (ksK k)[j]? = some l → w'.cell? ⟨b, off + j, none⟩ = some (.string ⟨l.toArray⟩)

theorem cell_alloc_drew (w : World) (cs : Array Value) (t j : Nat) : (w.alloc (.cells cs t)).drew.cell? ⟨w.heap.size, j, none⟩ = cs[j]? :=
  cell_of_row _ _ _ _ _ _ (heap_alloc_new w _)
theorem fields_laid (c k : Nat) (h : c < 41) (hk : opk c = k) (w : World) (hG : Glob w) :
    Calls Tryd.prog 84 #[.string (wordB c)] w fun e w' => e = .returned (.slice (some ⟨w.heap.size, 0, none⟩) ((ksK k).length + 1) ((ksK k).length + 1)) ∧
      w.alloc (.cells (Value.string ⟨(nmC c).toArray⟩ :: (ksK k).map fun l => Value.string ⟨l.toArray⟩).toArray 9) = w' := by
  refine (Tryd.strings_Fields_laid (wordB c) w (wordB_size c h) (wordB_ascii c h) hG.sp).mono ?_
  have hf := fields_words c h
  rintro e w' ⟨rfl, rfl⟩
  have : (wordB c).data.toList = wordsL.getD c [] := rfl
  rw [this, hf, hk]
  exact ⟨by simp, by simp⟩

theorem opk_le (c : Int) : opk c = 0 ∨ opk c = 1 ∨ opk c = 2 ∨ opk c = 3 ∨ opk c = 4 := by
  unfold opk
  split <;> (try split) <;> (try split) <;> (try split) <;> simp

set_option maxHeartbeats 800000 in
set_option maxRecDepth 100000 in
theorem parts_in (c : Nat) (h1 : c ≤ 40) (w : World) (hG : Glob w) : Calls Tryd.prog 44 #[.int .i64 c] w (PartsPost w c (opk c)) := by
  have HG := Lib.hid hG
  clear hG
  have t1 : decide ((c : Int) < 0) = false := by simp
  have t2 : decide ((40 : Int) < c) = false := by simp; omega
  have hix := run_index_words c (by omega)
  obtain ⟨k, hk⟩ : ∃ k, opk c = k := ⟨_, rfl⟩
  have hk4 := opk_le c
  rw [hk] at hk4 ⊢
  have HK := Lib.hid hk
  clear hk
  have hp : ∀ b off cap nm, PartsPost w c k (.returned (.tuple #[.string ⟨(nmC c).toArray⟩, .slice (some ⟨b, off, none⟩) (ksK k).length cap])) nm ↔ PartsPost w c k (.returned (.tuple #[.string ⟨(nmC c).toArray⟩, .slice (some ⟨b, off, none⟩) (ksK k).length cap])) nm := fun _ _ _ _ => Iff.rfl
  clear hp
  rcases hk4 with rfl | rfl | rfl | rfl | rfl
  all_goals
    go_enter Tryd.func44, Tryd.ntmps44
    go_wp2_with (first | (go_at_call 85; refine (words_calls _).mono ?_; rintro e w1 ⟨hb1, rfl⟩) | (go_at_call 84; refine (fields_laid c _ (by omega) HK.out _ (HG.out.below hb1)).mono ?_; rintro e w2 ⟨rfl, rfl⟩; simp only [ksK, List.length_cons, List.length_nil, Nat.zero_add, Nat.reduceAdd, List.map_cons, List.map_nil]) | fail)
    go_region
    all_goals (go_wp2; go_ret2)
    all_goals refine ⟨(hb1.alloc hb1.size _).drew, w1.heap.size, _, _, hb1.size, rfl, ?_⟩
    all_goals
      intro j l hj
      rw [cell_alloc_drew]
      rcases j with _ | _ | j <;> simp [ksK] at hj ⊢ <;> exact hj

theorem parts_out (c : Int) (h1 : c < 0 ∨ 40 < c) (w : World) : Calls Tryd.prog 44 #[.int .i64 c] w fun e w' => e = .returned (.tuple #[.string ⟨#[]⟩, .slice none 0 0]) ∧ w = w' := by
  by_cases h0 : c < 0
  · go_enter Tryd.func44, Tryd.ntmps44
    go_wp2_with fail
    all_goals (go_ret2; exact ⟨rfl, rfl⟩)
  · have h2 : 40 < c := by omega
    go_enter Tryd.func44, Tryd.ntmps44
    go_wp2_with fail
    all_goals (go_ret2; exact ⟨rfl, rfl⟩)

/-- The name of a code; empty of none. -/
def nameC (c : Int) : List UInt8 := if 0 ≤ c ∧ c ≤ 40 then nmC c else []
theorem name_calls (c : Int) (w : World) (hG : Glob w) : Calls Tryd.prog 25 #[.int .i64 c] w fun e w' => e = .returned (.string ⟨(nameC c).toArray⟩) ∧ Below w.heap.size w w' := by
  have HG := Lib.hid hG
  clear hG
  by_cases h : 0 ≤ c ∧ c ≤ 40
  · obtain ⟨n, rfl⟩ := Int.eq_ofNat_of_zero_le h.1
    have hn : nameC n = nmC n := if_pos h
    rw [hn]
    have hle : n ≤ 40 := by omega
    clear hn h
    go_enter Tryd.func25, Tryd.ntmps25
    go_wp2_with (first | (go_at_call 44; refine (parts_in n hle _ HG.out).mono ?_; rintro e w1 ⟨hb1, b, off, cap, hb, rfl, hc⟩; clear hc) | fail)
    go_ret
    exact ⟨rfl, hb1⟩
  · have hn : nameC c = [] := if_neg h
    have hle : c < 0 ∨ 40 < c := by omega
    rw [hn]
    clear hn h
    have HL := Lib.hid hle
    clear hle
    go_enter Tryd.func25, Tryd.ntmps25
    go_wp2_with (first | (go_at_call 44; refine (parts_out c HL.out _).mono ?_; rintro e w1 ⟨rfl, rfl⟩) | fail)
    go_ret
    exact ⟨rfl, Below.refl _ _⟩
end Go.Proofs.YtkphijabhoppnaaDoor
