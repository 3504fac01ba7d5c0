/- What a bytecode takes and puts, by the reference (brazierref15.effect). -/
import Derived.Test.YtkphijabhoppnaaDoorAYb
namespace Go.Proofs.YtkphijabhoppnaaDoor
open Go.RowKit Go.Proofs.YtkphijabhoppnaaDoorW.PrintWords Go.Proofs.YtkphijabhoppnaaDoorW.PrintLast Go.Proofs.YtkphijabhoppnaaDoorW.PrintMore
set_option linter.unusedSimpArgs false
set_option linter.unusedVariables false
def re11_T : Bool × List (List Nat × List Nat) := (true, [([], []), ([0], [0]), ([], []), ([1, 2], [1, 2]), ([3], [3]), ([4], [4]), ([], []), ([6], [6]), ([5, 7], [5, 7]), ([8], [8]), ([9], [9]), ([5], []), ([10, 11, 0, 1, 2, 3, 4, 5, 6, 7, 8, 9, 10, 11], [10])])
theorem re11_tab : rtab .any (opsOf Tryd.f165 11) = re11_T := by kernel_rfl
theorem re11_bits : waitsOk re11_T.2 [0, 1, 0, 7, 15, 31, 0, 64, 255, 511, 1023, 63, 4095] = true := by kernel_rfl
def re13_T : Bool × List (List Nat × List Nat) := (true, [([], []), ([0], [0]), ([], []), ([1, 2], [1, 2]), ([3], [3]), ([4], [4]), ([], []), ([6], [6]), ([5, 7], [5, 7]), ([8], [8]), ([9], [9]), ([10, 5, 0, 1, 2, 3, 4, 5, 6, 7, 8, 9, 10], [10]), ([11, 0, 1, 2, 3, 4, 5, 6, 7, 8, 9, 10, 11], [])])
theorem re13_tab : rtab .any (opsOf Tryd.f165 13) = re13_T := by kernel_rfl
theorem re13_bits : waitsOk re13_T.2 [0, 1, 0, 7, 15, 31, 0, 64, 255, 511, 1023, 2047, 4095] = true := by kernel_rfl
theorem local_val (m : Meth) (a : Int) (h : (localS m a).2 = true) : 0 ≤ a ∧ a < ((m.f0 ++ m.f2).length : Int) ∧ (localS m a).1 = rd (m.f0 ++ m.f2) a := by
  have hin := local_in m a
  rw [h] at hin
  have h2 : 0 ≤ a ∧ a < ((m.f0 ++ m.f2).length : Int) := of_decide_eq_true hin.symm
  refine ⟨h2.1, h2.2, ?_⟩
  obtain ⟨i, rfl⟩ : ∃ i : Nat, a = i := ⟨a.toNat, by omega⟩
  have h3 := h2.2
  rw [List.length_append] at h3
  unfold localS rd
  rw [if_neg (by omega)]
  by_cases h1 : (i : Int) < (m.f0.length : Int)
  · rw [if_pos h1]
    simp only [Int.toNat_natCast, List.getD_eq_getElem?_getD]
    rw [List.getElem?_append_left (by omega)]
  · rw [if_neg h1, if_pos (by omega)]
    have e : ((i : Int) - (m.f0.length : Int)).toNat = i - m.f0.length := by omega
    simp only [Int.toNat_natCast, List.getD_eq_getElem?_getD, e]
    rw [List.getElem?_append_right (by omega)]
section
variable {w : World} {A0 A1 A2 : Option Addr} {c0 c1 c2 : Nat} {p : Pg}
theorem mv_nn {w V : World} (h : Below w.heap.size w V) : MvPost w [] [] (.returned (.tuple #[.slice none 0 0, .slice none 0 0])) V := ⟨_, _, rfl, RI.nil _, RI.nil _, h⟩
theorem mv_nl {w V : World} (h : Below w.heap.size w V) (u : List Int) (hl : u.length ≤ maxLen) : MvPost w [] u (.returned (.tuple #[.slice none 0 0, .slice (some ⟨V.heap.size, 0, none⟩) u.length u.length])) (V.alloc (.cells (u.map (Value.int .i64)).toArray 3)) :=
  ⟨_, _, rfl, RI.nil _, RI.lit (heap_alloc_new _ _) hl, h.alloc h.size _⟩
theorem mv_ln {w V : World} (h : Below w.heap.size w V) (t : List Int) (hl : t.length ≤ maxLen) : MvPost w t [] (.returned (.tuple #[.slice (some ⟨V.heap.size, 0, none⟩) t.length t.length, .slice none 0 0])) (V.alloc (.cells (t.map (Value.int .i64)).toArray 3)) :=
  ⟨_, _, rfl, RI.lit (heap_alloc_new _ _) hl, RI.nil _, h.alloc h.size _⟩
theorem mv_ll {w V : World} (h : Below w.heap.size w V) (t u : List Int) (hl : t.length ≤ maxLen) (hu : u.length ≤ maxLen) : MvPost w t u (.returned (.tuple #[.slice (some ⟨V.heap.size, 0, none⟩) t.length t.length, .slice (some ⟨V.heap.size + 1, 0, none⟩) u.length u.length])) ((V.alloc (.cells (t.map (Value.int .i64)).toArray 3)).alloc (.cells (u.map (Value.int .i64)).toArray 3)) :=
  ⟨_, _, rfl, RI.lit (row_alloc (heap_alloc_new _ _) _) hl, RI.lit (heap_alloc2 _ _ _) hu, (h.alloc h.size _).alloc (by have := h.size; simp; omega) _⟩
set_option maxRecDepth 100000 in
set_option maxHeartbeats 6400000 in
theorem reff_plain (k : Nat) (c a b o : Int) (t u : List Int) (h : (c = 0 ∧ t = [] ∧ u = []) ∨ (c = 25 ∧ t = [] ∧ u = []) ∨ (c = 1 ∧ t = [] ∧ u = [1]) ∨ (c = 2 ∧ t = [] ∧ u = [1]) ∨ (c = 3 ∧ t = [] ∧ u = [2]) ∨ (c = 29 ∧ t = [] ∧ u = [2]) ∨ (c = 9 ∧ t = [1, 1] ∧ u = [1]) ∨ (c = 10 ∧ t = [1, 1] ∧ u = [1]) ∨ (c = 11 ∧ t = [1, 1] ∧ u = [1]) ∨ (c = 12 ∧ t = [1, 1] ∧ u = [1]) ∨ (c = 13 ∧ t = [1, 1] ∧ u = [1]) ∨ (c = 14 ∧ t = [1, 1] ∧ u = [1]) ∨ (c = 15 ∧ t = [1, 1] ∧ u = [1]) ∨ (c = 16 ∧ t = [1, 1] ∧ u = [1]) ∨ (c = 17 ∧ t = [1, 1] ∧ u = [1]) ∨ (c = 18 ∧ t = [1, 1] ∧ u = [1]) ∨ (c = 19 ∧ t = [1, 1] ∧ u = [1]) ∨ (c = 21 ∧ t = [1, 1] ∧ u = [1]) ∨ (c = 22 ∧ t = [1, 1] ∧ u = [1]) ∨ (c = 20 ∧ t = [1] ∧ u = [1]) ∨ (c = 23 ∧ t = [2, 2] ∧ u = [1]) ∨ (c = 24 ∧ t = [2] ∧ u = [1]) ∨ (c = 35 ∧ t = [2] ∧ u = [1]) ∨ (c = 38 ∧ t = [2] ∧ u = [1]) ∨ (c = 26 ∧ t = [1] ∧ u = []) ∨ (c = 39 ∧ t = [1] ∧ u = []) ∨ (c = 40 ∧ t = [1] ∧ u = []) ∨ (c = 32 ∧ t = [1] ∧ u = [2]) ∨ (c = 36 ∧ t = [2] ∧ u = []) ∨ (c = 37 ∧ t = [2] ∧ u = [])) :
    Calls Tryd.prog 165 #[.agg #[.slice A0 p.pool.length c0, .slice A1 p.classes.length c1, .slice A2 p.methods.length c2], .int .i64 k, .agg #[.int .i64 c, .int .i64 a, .int .i64 b, .int .i64 o]] w (MvPost w t u) := by
  have hB : Below w.heap.size w ((w.alloc (obP A0 c0 A1 c1 A2 c2 p)).alloc (.cells #[.int .i64 c, .int .i64 a, .int .i64 b, .int .i64 o] 29)) := ((Below.refl _ w).alloc (Nat.le_refl _) _).alloc (by simp) _
  have r0 := row_alloc (heap_alloc_new w (obP A0 c0 A1 c1 A2 c2 p)) (.cells #[.int .i64 c, .int .i64 a, .int .i64 b, .int .i64 o] 29)
  have r1 := heap_alloc_new (w.alloc (obP A0 c0 A1 c1 A2 c2 p)) (.cells #[.int .i64 c, .int .i64 a, .int .i64 b, .int .i64 o] 29)
  simp only [World.size_alloc] at r1
  have HB := Lib.hid hB
  have R0 := Lib.hid r0
  have R1 := Lib.hid r1
  clear hB r0 r1
  have main : ∀ cc : Int, cc = c → ((cc = 0 ∧ t = [] ∧ u = []) ∨ (cc = 25 ∧ t = [] ∧ u = []) ∨ (cc = 1 ∧ t = [] ∧ u = [1]) ∨ (cc = 2 ∧ t = [] ∧ u = [1]) ∨ (cc = 3 ∧ t = [] ∧ u = [2]) ∨ (cc = 29 ∧ t = [] ∧ u = [2]) ∨ (cc = 9 ∧ t = [1, 1] ∧ u = [1]) ∨ (cc = 10 ∧ t = [1, 1] ∧ u = [1]) ∨ (cc = 11 ∧ t = [1, 1] ∧ u = [1]) ∨ (cc = 12 ∧ t = [1, 1] ∧ u = [1]) ∨ (cc = 13 ∧ t = [1, 1] ∧ u = [1]) ∨ (cc = 14 ∧ t = [1, 1] ∧ u = [1]) ∨ (cc = 15 ∧ t = [1, 1] ∧ u = [1]) ∨ (cc = 16 ∧ t = [1, 1] ∧ u = [1]) ∨ (cc = 17 ∧ t = [1, 1] ∧ u = [1]) ∨ (cc = 18 ∧ t = [1, 1] ∧ u = [1]) ∨ (cc = 19 ∧ t = [1, 1] ∧ u = [1]) ∨ (cc = 21 ∧ t = [1, 1] ∧ u = [1]) ∨ (cc = 22 ∧ t = [1, 1] ∧ u = [1]) ∨ (cc = 20 ∧ t = [1] ∧ u = [1]) ∨ (cc = 23 ∧ t = [2, 2] ∧ u = [1]) ∨ (cc = 24 ∧ t = [2] ∧ u = [1]) ∨ (cc = 35 ∧ t = [2] ∧ u = [1]) ∨ (cc = 38 ∧ t = [2] ∧ u = [1]) ∨ (cc = 26 ∧ t = [1] ∧ u = []) ∨ (cc = 39 ∧ t = [1] ∧ u = []) ∨ (cc = 40 ∧ t = [1] ∧ u = []) ∨ (cc = 32 ∧ t = [1] ∧ u = [2]) ∨ (cc = 36 ∧ t = [2] ∧ u = []) ∨ (cc = 37 ∧ t = [2] ∧ u = [])) → Calls Tryd.prog 165 #[.agg #[.slice A0 p.pool.length c0, .slice A1 p.classes.length c1, .slice A2 p.methods.length c2], .int .i64 k, .agg #[.int .i64 c, .int .i64 a, .int .i64 b, .int .i64 o]] w (MvPost w t u) := by
    rintro cc rfl h
    rcases h with ⟨rfl, rfl, rfl⟩ | ⟨rfl, rfl, rfl⟩ | ⟨rfl, rfl, rfl⟩ | ⟨rfl, rfl, rfl⟩ | ⟨rfl, rfl, rfl⟩ | ⟨rfl, rfl, rfl⟩ | ⟨rfl, rfl, rfl⟩ | ⟨rfl, rfl, rfl⟩ | ⟨rfl, rfl, rfl⟩ | ⟨rfl, rfl, rfl⟩ | ⟨rfl, rfl, rfl⟩ | ⟨rfl, rfl, rfl⟩ | ⟨rfl, rfl, rfl⟩ | ⟨rfl, rfl, rfl⟩ | ⟨rfl, rfl, rfl⟩ | ⟨rfl, rfl, rfl⟩ | ⟨rfl, rfl, rfl⟩ | ⟨rfl, rfl, rfl⟩ | ⟨rfl, rfl, rfl⟩ | ⟨rfl, rfl, rfl⟩ | ⟨rfl, rfl, rfl⟩ | ⟨rfl, rfl, rfl⟩ | ⟨rfl, rfl, rfl⟩ | ⟨rfl, rfl, rfl⟩ | ⟨rfl, rfl, rfl⟩ | ⟨rfl, rfl, rfl⟩ | ⟨rfl, rfl, rfl⟩ | ⟨rfl, rfl, rfl⟩ | ⟨rfl, rfl, rfl⟩ | ⟨rfl, rfl, rfl⟩
    all_goals
      go_enter Tryd.func165, Tryd.ntmps165
      go_upto_region 1 with fail
      first
      | (obtain ⟨V, hV⟩ : ∃ V, (w.alloc (obP A0 c0 A1 c1 A2 c2 p)).alloc (.cells #[.int .i64 0, .int .i64 a, .int .i64 b, .int .i64 o] 29) = V := ⟨_, rfl⟩; rw [hV] at HB R0 R1; simp only [hV]; clear hV)
      | (obtain ⟨V, hV⟩ : ∃ V, (w.alloc (obP A0 c0 A1 c1 A2 c2 p)).alloc (.cells #[.int .i64 25, .int .i64 a, .int .i64 b, .int .i64 o] 29) = V := ⟨_, rfl⟩; rw [hV] at HB R0 R1; simp only [hV]; clear hV)
      | (obtain ⟨V, hV⟩ : ∃ V, (w.alloc (obP A0 c0 A1 c1 A2 c2 p)).alloc (.cells #[.int .i64 1, .int .i64 a, .int .i64 b, .int .i64 o] 29) = V := ⟨_, rfl⟩; rw [hV] at HB R0 R1; simp only [hV]; clear hV)
      | (obtain ⟨V, hV⟩ : ∃ V, (w.alloc (obP A0 c0 A1 c1 A2 c2 p)).alloc (.cells #[.int .i64 2, .int .i64 a, .int .i64 b, .int .i64 o] 29) = V := ⟨_, rfl⟩; rw [hV] at HB R0 R1; simp only [hV]; clear hV)
      | (obtain ⟨V, hV⟩ : ∃ V, (w.alloc (obP A0 c0 A1 c1 A2 c2 p)).alloc (.cells #[.int .i64 3, .int .i64 a, .int .i64 b, .int .i64 o] 29) = V := ⟨_, rfl⟩; rw [hV] at HB R0 R1; simp only [hV]; clear hV)
      | (obtain ⟨V, hV⟩ : ∃ V, (w.alloc (obP A0 c0 A1 c1 A2 c2 p)).alloc (.cells #[.int .i64 29, .int .i64 a, .int .i64 b, .int .i64 o] 29) = V := ⟨_, rfl⟩; rw [hV] at HB R0 R1; simp only [hV]; clear hV)
      | (obtain ⟨V, hV⟩ : ∃ V, (w.alloc (obP A0 c0 A1 c1 A2 c2 p)).alloc (.cells #[.int .i64 9, .int .i64 a, .int .i64 b, .int .i64 o] 29) = V := ⟨_, rfl⟩; rw [hV] at HB R0 R1; simp only [hV]; clear hV)
      | (obtain ⟨V, hV⟩ : ∃ V, (w.alloc (obP A0 c0 A1 c1 A2 c2 p)).alloc (.cells #[.int .i64 10, .int .i64 a, .int .i64 b, .int .i64 o] 29) = V := ⟨_, rfl⟩; rw [hV] at HB R0 R1; simp only [hV]; clear hV)
      | (obtain ⟨V, hV⟩ : ∃ V, (w.alloc (obP A0 c0 A1 c1 A2 c2 p)).alloc (.cells #[.int .i64 11, .int .i64 a, .int .i64 b, .int .i64 o] 29) = V := ⟨_, rfl⟩; rw [hV] at HB R0 R1; simp only [hV]; clear hV)
      | (obtain ⟨V, hV⟩ : ∃ V, (w.alloc (obP A0 c0 A1 c1 A2 c2 p)).alloc (.cells #[.int .i64 12, .int .i64 a, .int .i64 b, .int .i64 o] 29) = V := ⟨_, rfl⟩; rw [hV] at HB R0 R1; simp only [hV]; clear hV)
      | (obtain ⟨V, hV⟩ : ∃ V, (w.alloc (obP A0 c0 A1 c1 A2 c2 p)).alloc (.cells #[.int .i64 13, .int .i64 a, .int .i64 b, .int .i64 o] 29) = V := ⟨_, rfl⟩; rw [hV] at HB R0 R1; simp only [hV]; clear hV)
      | (obtain ⟨V, hV⟩ : ∃ V, (w.alloc (obP A0 c0 A1 c1 A2 c2 p)).alloc (.cells #[.int .i64 14, .int .i64 a, .int .i64 b, .int .i64 o] 29) = V := ⟨_, rfl⟩; rw [hV] at HB R0 R1; simp only [hV]; clear hV)
      | (obtain ⟨V, hV⟩ : ∃ V, (w.alloc (obP A0 c0 A1 c1 A2 c2 p)).alloc (.cells #[.int .i64 15, .int .i64 a, .int .i64 b, .int .i64 o] 29) = V := ⟨_, rfl⟩; rw [hV] at HB R0 R1; simp only [hV]; clear hV)
      | (obtain ⟨V, hV⟩ : ∃ V, (w.alloc (obP A0 c0 A1 c1 A2 c2 p)).alloc (.cells #[.int .i64 16, .int .i64 a, .int .i64 b, .int .i64 o] 29) = V := ⟨_, rfl⟩; rw [hV] at HB R0 R1; simp only [hV]; clear hV)
      | (obtain ⟨V, hV⟩ : ∃ V, (w.alloc (obP A0 c0 A1 c1 A2 c2 p)).alloc (.cells #[.int .i64 17, .int .i64 a, .int .i64 b, .int .i64 o] 29) = V := ⟨_, rfl⟩; rw [hV] at HB R0 R1; simp only [hV]; clear hV)
      | (obtain ⟨V, hV⟩ : ∃ V, (w.alloc (obP A0 c0 A1 c1 A2 c2 p)).alloc (.cells #[.int .i64 18, .int .i64 a, .int .i64 b, .int .i64 o] 29) = V := ⟨_, rfl⟩; rw [hV] at HB R0 R1; simp only [hV]; clear hV)
      | (obtain ⟨V, hV⟩ : ∃ V, (w.alloc (obP A0 c0 A1 c1 A2 c2 p)).alloc (.cells #[.int .i64 19, .int .i64 a, .int .i64 b, .int .i64 o] 29) = V := ⟨_, rfl⟩; rw [hV] at HB R0 R1; simp only [hV]; clear hV)
      | (obtain ⟨V, hV⟩ : ∃ V, (w.alloc (obP A0 c0 A1 c1 A2 c2 p)).alloc (.cells #[.int .i64 21, .int .i64 a, .int .i64 b, .int .i64 o] 29) = V := ⟨_, rfl⟩; rw [hV] at HB R0 R1; simp only [hV]; clear hV)
      | (obtain ⟨V, hV⟩ : ∃ V, (w.alloc (obP A0 c0 A1 c1 A2 c2 p)).alloc (.cells #[.int .i64 22, .int .i64 a, .int .i64 b, .int .i64 o] 29) = V := ⟨_, rfl⟩; rw [hV] at HB R0 R1; simp only [hV]; clear hV)
      | (obtain ⟨V, hV⟩ : ∃ V, (w.alloc (obP A0 c0 A1 c1 A2 c2 p)).alloc (.cells #[.int .i64 20, .int .i64 a, .int .i64 b, .int .i64 o] 29) = V := ⟨_, rfl⟩; rw [hV] at HB R0 R1; simp only [hV]; clear hV)
      | (obtain ⟨V, hV⟩ : ∃ V, (w.alloc (obP A0 c0 A1 c1 A2 c2 p)).alloc (.cells #[.int .i64 23, .int .i64 a, .int .i64 b, .int .i64 o] 29) = V := ⟨_, rfl⟩; rw [hV] at HB R0 R1; simp only [hV]; clear hV)
      | (obtain ⟨V, hV⟩ : ∃ V, (w.alloc (obP A0 c0 A1 c1 A2 c2 p)).alloc (.cells #[.int .i64 24, .int .i64 a, .int .i64 b, .int .i64 o] 29) = V := ⟨_, rfl⟩; rw [hV] at HB R0 R1; simp only [hV]; clear hV)
      | (obtain ⟨V, hV⟩ : ∃ V, (w.alloc (obP A0 c0 A1 c1 A2 c2 p)).alloc (.cells #[.int .i64 35, .int .i64 a, .int .i64 b, .int .i64 o] 29) = V := ⟨_, rfl⟩; rw [hV] at HB R0 R1; simp only [hV]; clear hV)
      | (obtain ⟨V, hV⟩ : ∃ V, (w.alloc (obP A0 c0 A1 c1 A2 c2 p)).alloc (.cells #[.int .i64 38, .int .i64 a, .int .i64 b, .int .i64 o] 29) = V := ⟨_, rfl⟩; rw [hV] at HB R0 R1; simp only [hV]; clear hV)
      | (obtain ⟨V, hV⟩ : ∃ V, (w.alloc (obP A0 c0 A1 c1 A2 c2 p)).alloc (.cells #[.int .i64 26, .int .i64 a, .int .i64 b, .int .i64 o] 29) = V := ⟨_, rfl⟩; rw [hV] at HB R0 R1; simp only [hV]; clear hV)
      | (obtain ⟨V, hV⟩ : ∃ V, (w.alloc (obP A0 c0 A1 c1 A2 c2 p)).alloc (.cells #[.int .i64 39, .int .i64 a, .int .i64 b, .int .i64 o] 29) = V := ⟨_, rfl⟩; rw [hV] at HB R0 R1; simp only [hV]; clear hV)
      | (obtain ⟨V, hV⟩ : ∃ V, (w.alloc (obP A0 c0 A1 c1 A2 c2 p)).alloc (.cells #[.int .i64 40, .int .i64 a, .int .i64 b, .int .i64 o] 29) = V := ⟨_, rfl⟩; rw [hV] at HB R0 R1; simp only [hV]; clear hV)
      | (obtain ⟨V, hV⟩ : ∃ V, (w.alloc (obP A0 c0 A1 c1 A2 c2 p)).alloc (.cells #[.int .i64 32, .int .i64 a, .int .i64 b, .int .i64 o] 29) = V := ⟨_, rfl⟩; rw [hV] at HB R0 R1; simp only [hV]; clear hV)
      | (obtain ⟨V, hV⟩ : ∃ V, (w.alloc (obP A0 c0 A1 c1 A2 c2 p)).alloc (.cells #[.int .i64 36, .int .i64 a, .int .i64 b, .int .i64 o] 29) = V := ⟨_, rfl⟩; rw [hV] at HB R0 R1; simp only [hV]; clear hV)
      | (obtain ⟨V, hV⟩ : ∃ V, (w.alloc (obP A0 c0 A1 c1 A2 c2 p)).alloc (.cells #[.int .i64 37, .int .i64 a, .int .i64 b, .int .i64 o] 29) = V := ⟨_, rfl⟩; rw [hV] at HB R0 R1; simp only [hV]; clear hV)
      obtain ⟨o0, o1, o2, o3⟩ := cellsV R1.out
      go_wp2_with fail
      go_ret2
      first
      | exact mv_nn HB.out
      | exact mv_nl HB.out [1] (by simp [maxLen])
      | exact mv_nl HB.out [2] (by simp [maxLen])
      | exact mv_ln HB.out [1] (by simp [maxLen])
      | exact mv_ln HB.out [2] (by simp [maxLen])
      | exact mv_ll HB.out [1, 1] [1] (by simp [maxLen]) (by simp [maxLen])
      | exact mv_ll HB.out [1] [1] (by simp [maxLen]) (by simp [maxLen])
      | exact mv_ll HB.out [2] [1] (by simp [maxLen]) (by simp [maxLen])
      | exact mv_ll HB.out [2, 2] [1] (by simp [maxLen]) (by simp [maxLen])
      | exact mv_ll HB.out [1] [2] (by simp [maxLen]) (by simp [maxLen])
  exact main c rfl h
set_option maxRecDepth 100000 in
set_option maxHeartbeats 1600000 in
theorem reff_34 (k : Nat) (a b o : Int) :
    Calls Tryd.prog 165 #[.agg #[.slice A0 p.pool.length c0, .slice A1 p.classes.length c1, .slice A2 p.methods.length c2], .int .i64 k, .agg #[.int .i64 34, .int .i64 a, .int .i64 b, .int .i64 o]] w (MvPost w [2, 1, a] []) := by
  have hB : Below w.heap.size w ((w.alloc (obP A0 c0 A1 c1 A2 c2 p)).alloc (.cells #[.int .i64 34, .int .i64 a, .int .i64 b, .int .i64 o] 29)) := ((Below.refl _ w).alloc (Nat.le_refl _) _).alloc (by simp) _
  have r0 := row_alloc (heap_alloc_new w (obP A0 c0 A1 c1 A2 c2 p)) (.cells #[.int .i64 34, .int .i64 a, .int .i64 b, .int .i64 o] 29)
  have r1 := heap_alloc_new (w.alloc (obP A0 c0 A1 c1 A2 c2 p)) (.cells #[.int .i64 34, .int .i64 a, .int .i64 b, .int .i64 o] 29)
  simp only [World.size_alloc] at r1
  have HB := Lib.hid hB
  have R0 := Lib.hid r0
  have R1 := Lib.hid r1
  clear hB r0 r1
  go_enter Tryd.func165, Tryd.ntmps165
  go_upto_region 1 with fail
  obtain ⟨V, hV⟩ : ∃ V, (w.alloc (obP A0 c0 A1 c1 A2 c2 p)).alloc (.cells #[.int .i64 34, .int .i64 a, .int .i64 b, .int .i64 o] 29) = V := ⟨_, rfl⟩
  rw [hV] at HB R0 R1
  simp only [hV]
  clear hV
  obtain ⟨y0, y1, y2⟩ := cells3V R0.out
  obtain ⟨o0, o1, o2, o3⟩ := cellsV R1.out
  go_wp2_with fail
  go_ret2
  exact mv_ln HB.out [2, 1, a] (by simp [maxLen])
set_option maxRecDepth 100000 in
set_option maxHeartbeats 1600000 in
theorem reff_33 (k : Nat) (a b o : Int) :
    Calls Tryd.prog 165 #[.agg #[.slice A0 p.pool.length c0, .slice A1 p.classes.length c1, .slice A2 p.methods.length c2], .int .i64 k, .agg #[.int .i64 33, .int .i64 a, .int .i64 b, .int .i64 o]] w (MvPost w [2, 1] [a]) := by
  have hB : Below w.heap.size w ((w.alloc (obP A0 c0 A1 c1 A2 c2 p)).alloc (.cells #[.int .i64 33, .int .i64 a, .int .i64 b, .int .i64 o] 29)) := ((Below.refl _ w).alloc (Nat.le_refl _) _).alloc (by simp) _
  have r0 := row_alloc (heap_alloc_new w (obP A0 c0 A1 c1 A2 c2 p)) (.cells #[.int .i64 33, .int .i64 a, .int .i64 b, .int .i64 o] 29)
  have r1 := heap_alloc_new (w.alloc (obP A0 c0 A1 c1 A2 c2 p)) (.cells #[.int .i64 33, .int .i64 a, .int .i64 b, .int .i64 o] 29)
  simp only [World.size_alloc] at r1
  have HB := Lib.hid hB
  have R0 := Lib.hid r0
  have R1 := Lib.hid r1
  clear hB r0 r1
  go_enter Tryd.func165, Tryd.ntmps165
  go_upto_region 1 with fail
  obtain ⟨V, hV⟩ : ∃ V, (w.alloc (obP A0 c0 A1 c1 A2 c2 p)).alloc (.cells #[.int .i64 33, .int .i64 a, .int .i64 b, .int .i64 o] 29) = V := ⟨_, rfl⟩
  rw [hV] at HB R0 R1
  simp only [hV]
  clear hV
  obtain ⟨y0, y1, y2⟩ := cells3V R0.out
  obtain ⟨o0, o1, o2, o3⟩ := cellsV R1.out
  go_upto_region 56 with fail
  go_region_held3 (fun w' => w'.cell? ⟨w.heap.size + 1, 1, none⟩ = some (.int .i64 a)) (first | go_keep) (fail)
  all_goals
    go_wp2_with fail
    go_ret2
    have hs := HB.out.size
    first
    | exact mv_ll HB.out.drew [2, 1] [a] (by simp [maxLen]) (by simp [maxLen])
    | exact ⟨_, _, rfl, RI.lit (l := [2, 1]) (heap_alloc2 _ _ _) (by simp [maxLen]), RI.lit (l := [a]) (row_alloc (heap_alloc_new _ _) _) (by simp [maxLen]), (HB.out.drew.alloc hs _).alloc (by simp; omega) _⟩
set_option maxRecDepth 100000 in
set_option maxHeartbeats 3200000 in
theorem reff_4 (hp : PgX w A0 c0 A1 c1 A2 c2 p) (k : Nat) (hk : k < p.methods.length) (hl : (methS p k).f0.length ≤ 1000000 ∧ (methS p k).f2.length ≤ 1000000) (a b o : Int) (ha : (localS (methS p k) a).2 = true) (x : Int) (hx : (localS (methS p k) a).1 = x) :
    Calls Tryd.prog 165 #[.agg #[.slice A0 p.pool.length c0, .slice A1 p.classes.length c1, .slice A2 p.methods.length c2], .int .i64 k, .agg #[.int .i64 4, .int .i64 a, .int .i64 b, .int .i64 o]] w (MvPost w [] [x]) := by
  obtain ⟨h0, h1, hv⟩ := local_val _ _ ha
  rw [hx] at hv
  obtain ⟨ad, B0, d0, B2, d2, B4, d4, hM⟩ := mth_at hp k hk
  obtain ⟨m, hm⟩ : ∃ m, methS p k = m := ⟨_, rfl⟩
  rw [hm] at hM hl h1 hv
  obtain rfl := hM.e
  have hLoc : ∀ V, Below w.heap.size w V → Calls Tryd.prog 137 #[.agg #[.slice B0 m.f0.length d0, .int .i64 m.f1, .slice B2 m.f2.length d2, .int .i64 m.f3, .slice B4 m.f4.length d4]] V fun e w' => ∃ A c, e = .returned (.slice A (m.f0 ++ m.f2).length c) ∧ (m.f0 ++ m.f2).length ≤ c ∧ Kd.C (Kd.int .i64) w' A (m.f0 ++ m.f2).length (m.f0 ++ m.f2) ∧ Below V.heap.size V w' := fun V hV => locals_calls (hM.mt.below hV) hl.1 hl.2
  obtain ⟨N, hN⟩ : ∃ N, (m.f0 ++ m.f2).length = N := ⟨_, rfl⟩
  rw [hN] at hLoc h1
  have i0 : (0 : Int) ≤ (k : Int) := by omega
  have i1 : (k : Int) < (p.methods.length : Int) := by omega
  have HM := Lib.hid hM
  have HLoc := Lib.hid hLoc
  have HV := Lib.hid hv
  clear hp hk hl hM hLoc hm hN ha hx hv
  have hB : Below w.heap.size w ((w.alloc (obP A0 c0 A1 c1 (some ad) c2 p)).alloc (.cells #[.int .i64 4, .int .i64 a, .int .i64 b, .int .i64 o] 29)) := ((Below.refl _ w).alloc (Nat.le_refl _) _).alloc (by simp) _
  have r0 := row_alloc (heap_alloc_new w (obP A0 c0 A1 c1 (some ad) c2 p)) (.cells #[.int .i64 4, .int .i64 a, .int .i64 b, .int .i64 o] 29)
  have r1 := heap_alloc_new (w.alloc (obP A0 c0 A1 c1 (some ad) c2 p)) (.cells #[.int .i64 4, .int .i64 a, .int .i64 b, .int .i64 o] 29)
  simp only [World.size_alloc] at r1
  have HB := Lib.hid hB
  have R0 := Lib.hid r0
  have R1 := Lib.hid r1
  clear hB r0 r1
  go_enter Tryd.func165, Tryd.ntmps165
  go_upto_region 1 with fail
  obtain ⟨V, hV⟩ : ∃ V, (w.alloc (obP A0 c0 A1 c1 (some ad) c2 p)).alloc (.cells #[.int .i64 4, .int .i64 a, .int .i64 b, .int .i64 o] 29) = V := ⟨_, rfl⟩
  rw [hV] at HB R0 R1
  simp only [hV]
  clear hV
  obtain ⟨y0, y1, y2⟩ := cells3V R0.out
  obtain ⟨o0, o1, o2, o3⟩ := cellsV R1.out
  have m0 := cell_be HB.out HM.out.m0
  have m1 := cell_be HB.out HM.out.m1
  have m2 := cell_be HB.out HM.out.m2
  have m3 := cell_be HB.out HM.out.m3
  have m4 := cell_be HB.out HM.out.m4
  go_upto_region 11 with fail
  refine start_ (n := 13) (S := fun w' => w'.cell? ⟨w.heap.size, 2, none⟩ = some (.slice (some ad) p.methods.length c2) ∧ w'.cell? ⟨w.heap.size + 1, 1, none⟩ = some (.int .i64 a) ∧ w'.cell? (ad.add (k * 5)) = some (.slice B0 m.f0.length d0) ∧ w'.cell? ⟨(ad.add (k * 5)).block, (ad.add (k * 5)).off + 1, none⟩ = some (.int .i64 m.f1) ∧ w'.cell? ⟨(ad.add (k * 5)).block, (ad.add (k * 5)).off + 2, none⟩ = some (.slice B2 m.f2.length d2) ∧ w'.cell? ⟨(ad.add (k * 5)).block, (ad.add (k * 5)).off + 3, none⟩ = some (.int .i64 m.f3) ∧ w'.cell? ⟨(ad.add (k * 5)).block, (ad.add (k * 5)).off + 4, none⟩ = some (.slice B4 m.f4.length d4)) (ds := []) #[false, false, false, false, false, false, false, false, false, false, false, false, false] (by kernel_rfl) rfl rfl ⟨y2, o1, m0, m1, m2, m3, m4⟩ (fun hHeld => ?_); refine with_tabW re11_tab re11_bits (fun HT_ HW_ => ?_)
  refine pure_ (i := 0) (N := some 25) (v := ?_) (a' := ?_) #[true, false, false, false, false, false, false, false, false, false, false, false, false] rfl rfl (any_of HT_.out (by kernel_rfl)) (fun _ _ _ h => h) (Or.inl ⟨by rfl, ?_⟩) ?_ ?_
  rotate_left
  · intro w'; go_simp; with_reducible rfl
  rotate_left
  · simp only [Act.put, List.setIfInBounds_toArray, List.set_cons_zero, List.set_cons_succ, i64_w, i32_w]; rfl
  refine pure_ (i := 2) (N := some 27) (v := ?_) (a' := ?_) #[true, false, true, false, false, false, false, false, false, false, false, false, false] rfl rfl (any_of HT_.out (by kernel_rfl)) (fun _ _ _ h => h) (Or.inl ⟨by rfl, ?_⟩) ?_ ?_
  rotate_left
  · intro w'; go_simp; with_reducible rfl
  rotate_left
  · simp only [Act.put, List.setIfInBounds_toArray, List.set_cons_zero, List.set_cons_succ, i64_w, i32_w]; rfl
  refine pure_ (i := 6) (N := some 31) (v := ?_) (a' := ?_) #[true, false, true, false, false, false, true, false, false, false, false, false, false] rfl rfl (any_of HT_.out (by kernel_rfl)) (fun _ _ _ h => h) (Or.inl ⟨by rfl, ?_⟩) ?_ ?_
  rotate_left
  · intro w'; go_simp; with_reducible rfl
  rotate_left
  · simp only [Act.put, List.setIfInBounds_toArray, List.set_cons_zero, List.set_cons_succ, i64_w, i32_w]; rfl
  refine take_ (i := 1) (N := some 26) (v := ?_) (a' := ?_) #[true, true, true, false, false, false, true, false, false, false, false, false, false] rfl rfl (take_ofW HT_.out HW_.out (by kernel_rfl)) (fun _ _ _ h => h) (Or.inl ⟨by rfl, ?_⟩) hHeld ?_ ?_
  rotate_left
  · rintro w' ⟨s0, s1, s2, s3, s4, s5, s6⟩; go_simp; with_reducible rfl
  rotate_left
  · simp only [Act.put, List.setIfInBounds_toArray, List.set_cons_zero, List.set_cons_succ, i64_w, i32_w]; rfl
  refine pure_ (i := 3) (N := some 28) (v := ?_) (a' := ?_) #[true, true, true, true, false, false, true, false, false, false, false, false, false] rfl rfl (any_of HT_.out (by kernel_rfl)) (fun _ _ _ h => h) (Or.inl ⟨by rfl, ?_⟩) ?_ ?_
  rotate_left
  · intro w'; go_simp; with_reducible rfl
  rotate_left
  · simp only [Act.put, List.setIfInBounds_toArray, List.set_cons_zero, List.set_cons_succ, i64_w, i32_w]; rfl
  refine take_ (i := 4) (N := some 29) (v := ?_) (a' := ?_) #[true, true, true, true, true, false, true, false, false, false, false, false, false] rfl rfl (take_ofW HT_.out HW_.out (by kernel_rfl)) (fun _ _ _ h => h) (Or.inl ⟨by rfl, ?_⟩) hHeld ?_ ?_
  rotate_left
  · rintro w' ⟨s0, s1, s2, s3, s4, s5, s6⟩; go_simp; with_reducible rfl
  rotate_left
  · simp only [Act.put, List.setIfInBounds_toArray, List.set_cons_zero, List.set_cons_succ, i64_w, i32_w]; rfl
  refine take_ (i := 7) (N := some 32) (v := ?_) (a' := ?_) #[true, true, true, true, true, false, true, true, false, false, false, false, false] rfl rfl (take_ofW HT_.out HW_.out (by kernel_rfl)) (fun _ _ _ h => h) (Or.inl ⟨by rfl, ?_⟩) hHeld ?_ ?_
  rotate_left
  · rintro w' ⟨s0, s1, s2, s3, s4, s5, s6⟩; go_simp; with_reducible rfl
  rotate_left
  · simp only [Act.put, List.setIfInBounds_toArray, List.set_cons_zero, List.set_cons_succ, i64_w, i32_w]; rfl
  refine one_ (i := 5) (N := some 30) #[true, true, true, true, true, true, true, true, false, false, false, false, false] rfl rfl (one_of HT_.out (by kernel_rfl)) (by decide) (fun K hK => ?_)
  refine goes_ Tryd.func137 (by kernel_rfl) rfl #[.agg #[.slice B0 m.f0.length d0, .int .i64 m.f1, .slice B2 m.f2.length d2, .int .i64 m.f3, .slice B4 m.f4.length d4]] (by rfl) rfl rfl (by (try simp only [List.map_toArray, List.map_cons, List.map_nil]); first | done | rfl) ?_
  refine (HLoc.out _ HB.out.drew).mono ?_
  rintro e w3 ⟨A, cq, rfl, hle, hC, hb3⟩
  obtain ⟨ad3, rfl, hc3⟩ := Kd.at_int hC a h0 h1
  rw [← HV.out] at hc3
  refine ⟨_, rfl, ?_⟩
  refine hK.out _ _ ⟨cell_be hb3 y2, cell_be hb3 o1, cell_be hb3 m0, cell_be hb3 m1, cell_be hb3 m2, cell_be hb3 m3, cell_be hb3 m4⟩ (fun hHeld => ?_)
  clear hK K
  refine norm_ (a' := ?_) ?_ ?_
  rotate_left
  · first | (show Act.put _ (some 30) _ = _; simp only [Act.put, List.setIfInBounds_toArray, List.set_cons_zero, List.set_cons_succ, i64_w, i32_w]; rfl) | rfl
  refine pure_ (i := 8) (N := some 33) (v := ?_) (a' := ?_) #[true, true, true, true, true, true, true, true, true, false, false, false, false] rfl rfl (any_of HT_.out (by kernel_rfl)) (fun _ _ _ h => h) (Or.inl ⟨by rfl, ?_⟩) ?_ ?_
  rotate_left
  · intro w'; go_simp; with_reducible rfl
  rotate_left
  · simp only [Act.put, List.setIfInBounds_toArray, List.set_cons_zero, List.set_cons_succ, i64_w, i32_w]; rfl
  refine pure_ (i := 11) (N := some 6) (v := ?_) (a' := ?_) #[true, true, true, true, true, true, true, true, true, false, false, true, false] rfl rfl (any_of HT_.out (by kernel_rfl)) (fun _ _ _ h => h) (Or.inl ⟨by rfl, ?_⟩) ?_ ?_
  rotate_left
  · intro w'; go_simp; with_reducible rfl
  rotate_left
  · simp only [Act.put, List.setIfInBounds_toArray, List.set_cons_zero, List.set_cons_succ, i64_w, i32_w]; rfl
  refine one_ (i := 9) (N := some 34) #[true, true, true, true, true, true, true, true, true, true, false, true, false] rfl rfl (one_of HT_.out (by kernel_rfl)) (by decide) (fun K hK => ?_)
  rw [if_pos (by rfl)]
  go_simp
  refine hK.out _ _ hHeld (fun hHeld => ?_)
  clear hK K
  refine norm_ (a' := ?_) ?_ ?_
  rotate_left
  · first | (show Act.put _ (some 34) _ = _; simp only [Act.put, List.setIfInBounds_toArray, List.set_cons_zero, List.set_cons_succ, i64_w, i32_w]; rfl) | rfl
  refine one_ (i := 10) (N := some 35) #[true, true, true, true, true, true, true, true, true, true, true, true, false] rfl rfl (one_of HT_.out (by kernel_rfl)) (by decide) (fun K hK => ?_)
  rw [if_pos (by rfl)]
  go_simp
  refine hK.out _ _ ⟨cell_al (cell_be hb3 y2) _, cell_al (cell_be hb3 o1) _, cell_al (cell_be hb3 m0) _, cell_al (cell_be hb3 m1) _, cell_al (cell_be hb3 m2) _, cell_al (cell_be hb3 m3) _, cell_al (cell_be hb3 m4) _⟩ (fun hHeld => ?_)
  clear hK K
  refine norm_ (a' := ?_) ?_ ?_
  rotate_left
  · first | (show Act.put _ (some 35) _ = _; simp only [Act.put, List.setIfInBounds_toArray, List.set_cons_zero, List.set_cons_succ, i64_w, i32_w]; rfl) | rfl
  refine pure_ (i := 12) (N := some 7) (v := ?_) (a' := ?_) #[true, true, true, true, true, true, true, true, true, true, true, true, true] rfl rfl (any_of HT_.out (by kernel_rfl)) (fun _ _ _ h => h) (Or.inl ⟨by rfl, ?_⟩) ?_ ?_
  rotate_left
  · intro w'; go_simp; with_reducible rfl
  rotate_left
  · simp only [Act.put, List.setIfInBounds_toArray, List.set_cons_zero, List.set_cons_succ, i64_w, i32_w]; rfl
  refine done_ (done_of HT_.out (by kernel_rfl)) ?_
  go_wp2_with fail
  go_ret2
  exact mv_nl (HB.out.drew.trans (hb3.mono HB.out.size)) [x] (by simp [maxLen])
set_option maxRecDepth 100000 in
set_option maxHeartbeats 3200000 in
theorem reff_5 (hp : PgX w A0 c0 A1 c1 A2 c2 p) (k : Nat) (hk : k < p.methods.length) (hl : (methS p k).f0.length ≤ 1000000 ∧ (methS p k).f2.length ≤ 1000000) (a b o : Int) (ha : (localS (methS p k) a).2 = true) (x : Int) (hx : (localS (methS p k) a).1 = x) :
    Calls Tryd.prog 165 #[.agg #[.slice A0 p.pool.length c0, .slice A1 p.classes.length c1, .slice A2 p.methods.length c2], .int .i64 k, .agg #[.int .i64 5, .int .i64 a, .int .i64 b, .int .i64 o]] w (MvPost w [x] []) := by
  obtain ⟨h0, h1, hv⟩ := local_val _ _ ha
  rw [hx] at hv
  obtain ⟨ad, B0, d0, B2, d2, B4, d4, hM⟩ := mth_at hp k hk
  obtain ⟨m, hm⟩ : ∃ m, methS p k = m := ⟨_, rfl⟩
  rw [hm] at hM hl h1 hv
  obtain rfl := hM.e
  have hLoc : ∀ V, Below w.heap.size w V → Calls Tryd.prog 137 #[.agg #[.slice B0 m.f0.length d0, .int .i64 m.f1, .slice B2 m.f2.length d2, .int .i64 m.f3, .slice B4 m.f4.length d4]] V fun e w' => ∃ A c, e = .returned (.slice A (m.f0 ++ m.f2).length c) ∧ (m.f0 ++ m.f2).length ≤ c ∧ Kd.C (Kd.int .i64) w' A (m.f0 ++ m.f2).length (m.f0 ++ m.f2) ∧ Below V.heap.size V w' := fun V hV => locals_calls (hM.mt.below hV) hl.1 hl.2
  obtain ⟨N, hN⟩ : ∃ N, (m.f0 ++ m.f2).length = N := ⟨_, rfl⟩
  rw [hN] at hLoc h1
  have i0 : (0 : Int) ≤ (k : Int) := by omega
  have i1 : (k : Int) < (p.methods.length : Int) := by omega
  have HM := Lib.hid hM
  have HLoc := Lib.hid hLoc
  have HV := Lib.hid hv
  clear hp hk hl hM hLoc hm hN ha hx hv
  have hB : Below w.heap.size w ((w.alloc (obP A0 c0 A1 c1 (some ad) c2 p)).alloc (.cells #[.int .i64 5, .int .i64 a, .int .i64 b, .int .i64 o] 29)) := ((Below.refl _ w).alloc (Nat.le_refl _) _).alloc (by simp) _
  have r0 := row_alloc (heap_alloc_new w (obP A0 c0 A1 c1 (some ad) c2 p)) (.cells #[.int .i64 5, .int .i64 a, .int .i64 b, .int .i64 o] 29)
  have r1 := heap_alloc_new (w.alloc (obP A0 c0 A1 c1 (some ad) c2 p)) (.cells #[.int .i64 5, .int .i64 a, .int .i64 b, .int .i64 o] 29)
  simp only [World.size_alloc] at r1
  have HB := Lib.hid hB
  have R0 := Lib.hid r0
  have R1 := Lib.hid r1
  clear hB r0 r1
  go_enter Tryd.func165, Tryd.ntmps165
  go_upto_region 1 with fail
  obtain ⟨V, hV⟩ : ∃ V, (w.alloc (obP A0 c0 A1 c1 (some ad) c2 p)).alloc (.cells #[.int .i64 5, .int .i64 a, .int .i64 b, .int .i64 o] 29) = V := ⟨_, rfl⟩
  rw [hV] at HB R0 R1
  simp only [hV]
  clear hV
  obtain ⟨y0, y1, y2⟩ := cells3V R0.out
  obtain ⟨o0, o1, o2, o3⟩ := cellsV R1.out
  have m0 := cell_be HB.out HM.out.m0
  have m1 := cell_be HB.out HM.out.m1
  have m2 := cell_be HB.out HM.out.m2
  have m3 := cell_be HB.out HM.out.m3
  have m4 := cell_be HB.out HM.out.m4
  go_upto_region 13 with fail
  refine start_ (n := 13) (S := fun w' => w'.cell? ⟨w.heap.size, 2, none⟩ = some (.slice (some ad) p.methods.length c2) ∧ w'.cell? ⟨w.heap.size + 1, 1, none⟩ = some (.int .i64 a) ∧ w'.cell? (ad.add (k * 5)) = some (.slice B0 m.f0.length d0) ∧ w'.cell? ⟨(ad.add (k * 5)).block, (ad.add (k * 5)).off + 1, none⟩ = some (.int .i64 m.f1) ∧ w'.cell? ⟨(ad.add (k * 5)).block, (ad.add (k * 5)).off + 2, none⟩ = some (.slice B2 m.f2.length d2) ∧ w'.cell? ⟨(ad.add (k * 5)).block, (ad.add (k * 5)).off + 3, none⟩ = some (.int .i64 m.f3) ∧ w'.cell? ⟨(ad.add (k * 5)).block, (ad.add (k * 5)).off + 4, none⟩ = some (.slice B4 m.f4.length d4)) (ds := []) #[false, false, false, false, false, false, false, false, false, false, false, false, false] (by kernel_rfl) rfl rfl ⟨y2, o1, m0, m1, m2, m3, m4⟩ (fun hHeld => ?_); refine with_tabW re13_tab re13_bits (fun HT_ HW_ => ?_)
  refine pure_ (i := 0) (N := some 38) (v := ?_) (a' := ?_) #[true, false, false, false, false, false, false, false, false, false, false, false, false] rfl rfl (any_of HT_.out (by kernel_rfl)) (fun _ _ _ h => h) (Or.inl ⟨by rfl, ?_⟩) ?_ ?_
  rotate_left
  · intro w'; go_simp; with_reducible rfl
  rotate_left
  · simp only [Act.put, List.setIfInBounds_toArray, List.set_cons_zero, List.set_cons_succ, i64_w, i32_w]; rfl
  refine pure_ (i := 2) (N := some 40) (v := ?_) (a' := ?_) #[true, false, true, false, false, false, false, false, false, false, false, false, false] rfl rfl (any_of HT_.out (by kernel_rfl)) (fun _ _ _ h => h) (Or.inl ⟨by rfl, ?_⟩) ?_ ?_
  rotate_left
  · intro w'; go_simp; with_reducible rfl
  rotate_left
  · simp only [Act.put, List.setIfInBounds_toArray, List.set_cons_zero, List.set_cons_succ, i64_w, i32_w]; rfl
  refine pure_ (i := 6) (N := some 44) (v := ?_) (a' := ?_) #[true, false, true, false, false, false, true, false, false, false, false, false, false] rfl rfl (any_of HT_.out (by kernel_rfl)) (fun _ _ _ h => h) (Or.inl ⟨by rfl, ?_⟩) ?_ ?_
  rotate_left
  · intro w'; go_simp; with_reducible rfl
  rotate_left
  · simp only [Act.put, List.setIfInBounds_toArray, List.set_cons_zero, List.set_cons_succ, i64_w, i32_w]; rfl
  refine take_ (i := 1) (N := some 39) (v := ?_) (a' := ?_) #[true, true, true, false, false, false, true, false, false, false, false, false, false] rfl rfl (take_ofW HT_.out HW_.out (by kernel_rfl)) (fun _ _ _ h => h) (Or.inl ⟨by rfl, ?_⟩) hHeld ?_ ?_
  rotate_left
  · rintro w' ⟨s0, s1, s2, s3, s4, s5, s6⟩; go_simp; with_reducible rfl
  rotate_left
  · simp only [Act.put, List.setIfInBounds_toArray, List.set_cons_zero, List.set_cons_succ, i64_w, i32_w]; rfl
  refine pure_ (i := 3) (N := some 41) (v := ?_) (a' := ?_) #[true, true, true, true, false, false, true, false, false, false, false, false, false] rfl rfl (any_of HT_.out (by kernel_rfl)) (fun _ _ _ h => h) (Or.inl ⟨by rfl, ?_⟩) ?_ ?_
  rotate_left
  · intro w'; go_simp; with_reducible rfl
  rotate_left
  · simp only [Act.put, List.setIfInBounds_toArray, List.set_cons_zero, List.set_cons_succ, i64_w, i32_w]; rfl
  refine take_ (i := 4) (N := some 42) (v := ?_) (a' := ?_) #[true, true, true, true, true, false, true, false, false, false, false, false, false] rfl rfl (take_ofW HT_.out HW_.out (by kernel_rfl)) (fun _ _ _ h => h) (Or.inl ⟨by rfl, ?_⟩) hHeld ?_ ?_
  rotate_left
  · rintro w' ⟨s0, s1, s2, s3, s4, s5, s6⟩; go_simp; with_reducible rfl
  rotate_left
  · simp only [Act.put, List.setIfInBounds_toArray, List.set_cons_zero, List.set_cons_succ, i64_w, i32_w]; rfl
  refine take_ (i := 7) (N := some 45) (v := ?_) (a' := ?_) #[true, true, true, true, true, false, true, true, false, false, false, false, false] rfl rfl (take_ofW HT_.out HW_.out (by kernel_rfl)) (fun _ _ _ h => h) (Or.inl ⟨by rfl, ?_⟩) hHeld ?_ ?_
  rotate_left
  · rintro w' ⟨s0, s1, s2, s3, s4, s5, s6⟩; go_simp; with_reducible rfl
  rotate_left
  · simp only [Act.put, List.setIfInBounds_toArray, List.set_cons_zero, List.set_cons_succ, i64_w, i32_w]; rfl
  refine one_ (i := 5) (N := some 43) #[true, true, true, true, true, true, true, true, false, false, false, false, false] rfl rfl (one_of HT_.out (by kernel_rfl)) (by decide) (fun K hK => ?_)
  refine goes_ Tryd.func137 (by kernel_rfl) rfl #[.agg #[.slice B0 m.f0.length d0, .int .i64 m.f1, .slice B2 m.f2.length d2, .int .i64 m.f3, .slice B4 m.f4.length d4]] (by rfl) rfl rfl (by (try simp only [List.map_toArray, List.map_cons, List.map_nil]); first | done | rfl) ?_
  refine (HLoc.out _ HB.out.drew).mono ?_
  rintro e w3 ⟨A, cq, rfl, hle, hC, hb3⟩
  obtain ⟨ad3, rfl, hc3⟩ := Kd.at_int hC a h0 h1
  rw [← HV.out] at hc3
  refine ⟨_, rfl, ?_⟩
  refine hK.out _ _ ⟨cell_be hb3 y2, cell_be hb3 o1, cell_be hb3 m0, cell_be hb3 m1, cell_be hb3 m2, cell_be hb3 m3, cell_be hb3 m4⟩ (fun hHeld => ?_)
  clear hK K
  refine norm_ (a' := ?_) ?_ ?_
  rotate_left
  · first | (show Act.put _ (some 43) _ = _; simp only [Act.put, List.setIfInBounds_toArray, List.set_cons_zero, List.set_cons_succ, i64_w, i32_w]; rfl) | rfl
  refine pure_ (i := 8) (N := some 46) (v := ?_) (a' := ?_) #[true, true, true, true, true, true, true, true, true, false, false, false, false] rfl rfl (any_of HT_.out (by kernel_rfl)) (fun _ _ _ h => h) (Or.inl ⟨by rfl, ?_⟩) ?_ ?_
  rotate_left
  · intro w'; go_simp; with_reducible rfl
  rotate_left
  · simp only [Act.put, List.setIfInBounds_toArray, List.set_cons_zero, List.set_cons_succ, i64_w, i32_w]; rfl
  refine one_ (i := 9) (N := some 47) #[true, true, true, true, true, true, true, true, true, true, false, false, false] rfl rfl (one_of HT_.out (by kernel_rfl)) (by decide) (fun K hK => ?_)
  rw [if_pos (by rfl)]
  go_simp
  refine hK.out _ _ hHeld (fun hHeld => ?_)
  clear hK K
  refine norm_ (a' := ?_) ?_ ?_
  rotate_left
  · first | (show Act.put _ (some 47) _ = _; simp only [Act.put, List.setIfInBounds_toArray, List.set_cons_zero, List.set_cons_succ, i64_w, i32_w]; rfl) | rfl
  refine one_ (i := 10) (N := some 48) #[true, true, true, true, true, true, true, true, true, true, true, false, false] rfl rfl (one_of HT_.out (by kernel_rfl)) (by decide) (fun K hK => ?_)
  rw [if_pos (by rfl)]
  go_simp
  refine hK.out _ _ ⟨cell_al (cell_be hb3 y2) _, cell_al (cell_be hb3 o1) _, cell_al (cell_be hb3 m0) _, cell_al (cell_be hb3 m1) _, cell_al (cell_be hb3 m2) _, cell_al (cell_be hb3 m3) _, cell_al (cell_be hb3 m4) _⟩ (fun hHeld => ?_)
  clear hK K
  refine norm_ (a' := ?_) ?_ ?_
  rotate_left
  · first | (show Act.put _ (some 48) _ = _; simp only [Act.put, List.setIfInBounds_toArray, List.set_cons_zero, List.set_cons_succ, i64_w, i32_w]; rfl) | rfl
  refine pure_ (i := 11) (N := some 6) (v := ?_) (a' := ?_) #[true, true, true, true, true, true, true, true, true, true, true, true, false] rfl rfl (any_of HT_.out (by kernel_rfl)) (fun _ _ _ h => h) (Or.inl ⟨by rfl, ?_⟩) ?_ ?_
  rotate_left
  · intro w'; go_simp; with_reducible rfl
  rotate_left
  · simp only [Act.put, List.setIfInBounds_toArray, List.set_cons_zero, List.set_cons_succ, i64_w, i32_w]; rfl
  refine pure_ (i := 12) (N := some 7) (v := ?_) (a' := ?_) #[true, true, true, true, true, true, true, true, true, true, true, true, true] rfl rfl (any_of HT_.out (by kernel_rfl)) (fun _ _ _ h => h) (Or.inl ⟨by rfl, ?_⟩) ?_ ?_
  rotate_left
  · intro w'; go_simp; with_reducible rfl
  rotate_left
  · simp only [Act.put, List.setIfInBounds_toArray, List.set_cons_zero, List.set_cons_succ, i64_w, i32_w]; rfl
  refine done_ (done_of HT_.out (by kernel_rfl)) ?_
  go_wp2_with fail
  go_ret2
  exact mv_ln (HB.out.drew.trans (hb3.mono HB.out.size)) [x] (by simp [maxLen])
set_option maxRecDepth 100000 in
set_option maxHeartbeats 1600000 in
theorem reff_28 (hp : PgX w A0 c0 A1 c1 A2 c2 p) (k : Nat) (hk : k < p.methods.length) (a b o : Int) :
    Calls Tryd.prog 165 #[.agg #[.slice A0 p.pool.length c0, .slice A1 p.classes.length c1, .slice A2 p.methods.length c2], .int .i64 k, .agg #[.int .i64 28, .int .i64 a, .int .i64 b, .int .i64 o]] w (MvPost w (voidS (methS p k).f1) []) := by
  obtain ⟨ad, B0, d0, B2, d2, B4, d4, hM⟩ := mth_at hp k hk
  obtain ⟨m, hm⟩ : ∃ m, methS p k = m := ⟨_, rfl⟩
  rw [hm] at hM ⊢
  obtain rfl := hM.e
  have i0 : (0 : Int) ≤ (k : Int) := by omega
  have i1 : (k : Int) < (p.methods.length : Int) := by omega
  have HM := Lib.hid hM
  clear hp hk hM hm
  have hB : Below w.heap.size w ((w.alloc (obP A0 c0 A1 c1 (some ad) c2 p)).alloc (.cells #[.int .i64 28, .int .i64 a, .int .i64 b, .int .i64 o] 29)) := ((Below.refl _ w).alloc (Nat.le_refl _) _).alloc (by simp) _
  have r0 := row_alloc (heap_alloc_new w (obP A0 c0 A1 c1 (some ad) c2 p)) (.cells #[.int .i64 28, .int .i64 a, .int .i64 b, .int .i64 o] 29)
  have r1 := heap_alloc_new (w.alloc (obP A0 c0 A1 c1 (some ad) c2 p)) (.cells #[.int .i64 28, .int .i64 a, .int .i64 b, .int .i64 o] 29)
  simp only [World.size_alloc] at r1
  have HB := Lib.hid hB
  have R0 := Lib.hid r0
  have R1 := Lib.hid r1
  clear hB r0 r1
  by_cases hz : m.f1 = 0
  · have t1 : (m.f1 == 0) = true := by simpa using hz
    have e : voidS m.f1 = [] := by unfold voidS; rw [if_pos hz]
    rw [e]
    clear hz e
    go_enter Tryd.func165, Tryd.ntmps165
    go_upto_region 1 with fail
    obtain ⟨V, hV⟩ : ∃ V, (w.alloc (obP A0 c0 A1 c1 (some ad) c2 p)).alloc (.cells #[.int .i64 28, .int .i64 a, .int .i64 b, .int .i64 o] 29) = V := ⟨_, rfl⟩
    rw [hV] at HB R0 R1
    simp only [hV]
    clear hV
    obtain ⟨y0, y1, y2⟩ := cells3V R0.out
    obtain ⟨o0, o1, o2, o3⟩ := cellsV R1.out
    have m1 := cell_be HB.out HM.out.m1
    go_wp2_with fail
    go_ret2
    exact mv_nn HB.out
  · have t1 : (m.f1 == 0) = false := by simpa using hz
    have e : voidS m.f1 = [m.f1] := by unfold voidS; rw [if_neg hz]
    rw [e]
    clear hz e
    go_enter Tryd.func165, Tryd.ntmps165
    go_upto_region 1 with fail
    obtain ⟨V, hV⟩ : ∃ V, (w.alloc (obP A0 c0 A1 c1 (some ad) c2 p)).alloc (.cells #[.int .i64 28, .int .i64 a, .int .i64 b, .int .i64 o] 29) = V := ⟨_, rfl⟩
    rw [hV] at HB R0 R1
    simp only [hV]
    clear hV
    obtain ⟨y0, y1, y2⟩ := cells3V R0.out
    obtain ⟨o0, o1, o2, o3⟩ := cellsV R1.out
    have m1 := cell_be HB.out HM.out.m1
    go_wp2_with fail
    go_ret2
    exact mv_ln HB.out [m.f1] (by simp [maxLen])
set_option maxRecDepth 100000 in
set_option maxHeartbeats 3200000 in
theorem reff_27 (hp : PgX w A0 c0 A1 c1 A2 c2 p) (k i : Nat) (hi : i < p.methods.length) (b o : Int) :
    Calls Tryd.prog 165 #[.agg #[.slice A0 p.pool.length c0, .slice A1 p.classes.length c1, .slice A2 p.methods.length c2], .int .i64 k, .agg #[.int .i64 27, .int .i64 i, .int .i64 b, .int .i64 o]] w (MvPost w (methS p i).f0 (voidS (methS p i).f1)) := by
  obtain ⟨ad, B0, d0, B2, d2, B4, d4, hM⟩ := mth_at hp i hi
  obtain ⟨m, hm⟩ : ∃ m, methS p i = m := ⟨_, rfl⟩
  rw [hm] at hM ⊢
  obtain rfl := hM.e
  have i0 : (0 : Int) ≤ (i : Int) := by omega
  have i1 : (i : Int) < (p.methods.length : Int) := by omega
  have HM := Lib.hid hM
  clear hp hi hM hm
  have hB : Below w.heap.size w ((w.alloc (obP A0 c0 A1 c1 (some ad) c2 p)).alloc (.cells #[.int .i64 27, .int .i64 i, .int .i64 b, .int .i64 o] 29)) := ((Below.refl _ w).alloc (Nat.le_refl _) _).alloc (by simp) _
  have r0 := row_alloc (heap_alloc_new w (obP A0 c0 A1 c1 (some ad) c2 p)) (.cells #[.int .i64 27, .int .i64 i, .int .i64 b, .int .i64 o] 29)
  have r1 := heap_alloc_new (w.alloc (obP A0 c0 A1 c1 (some ad) c2 p)) (.cells #[.int .i64 27, .int .i64 i, .int .i64 b, .int .i64 o] 29)
  simp only [World.size_alloc] at r1
  have HB := Lib.hid hB
  have R0 := Lib.hid r0
  have R1 := Lib.hid r1
  clear hB r0 r1
  by_cases hz : m.f1 = 0
  · have t1 : (m.f1 == 0) = true := by simpa using hz
    have e : voidS m.f1 = [] := by unfold voidS; rw [if_pos hz]
    rw [e]
    clear hz e
    go_enter Tryd.func165, Tryd.ntmps165
    go_upto_region 1 with fail
    obtain ⟨V, hV⟩ : ∃ V, (w.alloc (obP A0 c0 A1 c1 (some ad) c2 p)).alloc (.cells #[.int .i64 27, .int .i64 i, .int .i64 b, .int .i64 o] 29) = V := ⟨_, rfl⟩
    rw [hV] at HB R0 R1
    simp only [hV]
    clear hV
    obtain ⟨y0, y1, y2⟩ := cells3V R0.out
    obtain ⟨o0, o1, o2, o3⟩ := cellsV R1.out
    have m0 := cell_be HB.out HM.out.m0
    have m1 := cell_be HB.out HM.out.m1
    have m2 := cell_be HB.out HM.out.m2
    have m3 := cell_be HB.out HM.out.m3
    have m4 := cell_be HB.out HM.out.m4
    go_wp2_with fail
    go_ret2
    have hA := HB.out.alloc HB.out.size (obM B0 d0 B2 d2 B4 d4 m)
    exact ⟨_, _, rfl, ⟨_, _, rfl, HM.out.mt.h0, Kd.C_below HM.out.mt.r0 hA⟩, RI.nil _, hA⟩
  · have t1 : (m.f1 == 0) = false := by simpa using hz
    have e : voidS m.f1 = [m.f1] := by unfold voidS; rw [if_neg hz]
    rw [e]
    clear hz e
    go_enter Tryd.func165, Tryd.ntmps165
    go_upto_region 1 with fail
    obtain ⟨V, hV⟩ : ∃ V, (w.alloc (obP A0 c0 A1 c1 (some ad) c2 p)).alloc (.cells #[.int .i64 27, .int .i64 i, .int .i64 b, .int .i64 o] 29) = V := ⟨_, rfl⟩
    rw [hV] at HB R0 R1
    simp only [hV]
    clear hV
    obtain ⟨y0, y1, y2⟩ := cells3V R0.out
    obtain ⟨o0, o1, o2, o3⟩ := cellsV R1.out
    have m0 := cell_be HB.out HM.out.m0
    have m1 := cell_be HB.out HM.out.m1
    have m2 := cell_be HB.out HM.out.m2
    have m3 := cell_be HB.out HM.out.m3
    have m4 := cell_be HB.out HM.out.m4
    go_upto_region 44 with fail
    obtain ⟨x0, x1, x2, x3, x4⟩ := cells5V (heap_alloc_new V (obM B0 d0 B2 d2 B4 d4 m))
    have hA := HB.out.alloc HB.out.size (obM B0 d0 B2 d2 B4 d4 m)
    have HA := Lib.hid hA
    obtain ⟨G, hG⟩ : ∃ G, V.heap.size = G := ⟨_, rfl⟩
    rw [hG] at x0 x1
    simp only [hG]
    obtain ⟨X, hX⟩ : ∃ X, V.alloc (obM B0 d0 B2 d2 B4 d4 m) = X := ⟨_, rfl⟩
    rw [hX] at HA x0 x1
    simp only [hX]
    clear hA hG hX x2 x3 x4
    go_region_held3 (fun w' => w'.cell? ⟨G, 0, none⟩ = some (.slice B0 m.f0.length d0) ∧ w'.cell? ⟨G, 1, none⟩ = some (.int .i64 m.f1)) (first | go_keep) (fail)
    all_goals
      go_wp2_with fail
      go_ret2
      have hB := HA.out.drew.alloc HA.out.size (.cells #[.int .i64 m.f1] 3)
      exact ⟨_, _, rfl, ⟨_, _, rfl, HM.out.mt.h0, Kd.C_below HM.out.mt.r0 hB⟩, RI.lit (l := [m.f1]) (heap_alloc_new _ _) (by simp [maxLen]), hB⟩
set_option maxRecDepth 100000 in
set_option maxHeartbeats 3200000 in
theorem reff_30 (hp : PgX w A0 c0 A1 c1 A2 c2 p) (k : Nat) (a b o : Int) (h0 : 0 ≤ a) (h1 : a < (p.classes.length : Int)) (b0 : 0 ≤ b) (b1 : b < ((PVerifyMethods.rd_L4 p.classes a).length : Int)) (x : Int) (hx : (PVerifyMethods.rd_T179 (PVerifyMethods.rd_L4 p.classes a) b).f0 = x) :
    Calls Tryd.prog 165 #[.agg #[.slice A0 p.pool.length c0, .slice A1 p.classes.length c1, .slice A2 p.methods.length c2], .int .i64 k, .agg #[.int .i64 30, .int .i64 a, .int .i64 b, .int .i64 o]] w (MvPost w [2] [x]) := by
  obtain ⟨ad, D0, d0, rfl, hcell, hle, hC⟩ := PVerifyMethods.at_L4 hp.pg.r1 a h0 h1
  obtain ⟨fd, rfl, hf, -⟩ := PVerifyMethods.at_T179 hC b b0 b1
  rw [hx] at hf
  obtain ⟨N, hN⟩ : ∃ N, (PVerifyMethods.rd_L4 p.classes a).length = N := ⟨_, rfl⟩
  rw [hN] at hcell b1
  have HCL := Lib.hid hcell
  have HF := Lib.hid hf
  clear hp hx hf hcell hle hC hN
  have hB : Below w.heap.size w ((w.alloc (obP A0 c0 (some ad) c1 A2 c2 p)).alloc (.cells #[.int .i64 30, .int .i64 a, .int .i64 b, .int .i64 o] 29)) := ((Below.refl _ w).alloc (Nat.le_refl _) _).alloc (by simp) _
  have r0 := row_alloc (heap_alloc_new w (obP A0 c0 (some ad) c1 A2 c2 p)) (.cells #[.int .i64 30, .int .i64 a, .int .i64 b, .int .i64 o] 29)
  have r1 := heap_alloc_new (w.alloc (obP A0 c0 (some ad) c1 A2 c2 p)) (.cells #[.int .i64 30, .int .i64 a, .int .i64 b, .int .i64 o] 29)
  simp only [World.size_alloc] at r1
  have HB := Lib.hid hB
  have R0 := Lib.hid r0
  have R1 := Lib.hid r1
  clear hB r0 r1
  go_enter Tryd.func165, Tryd.ntmps165
  go_upto_region 1 with fail
  obtain ⟨V, hV⟩ : ∃ V, (w.alloc (obP A0 c0 (some ad) c1 A2 c2 p)).alloc (.cells #[.int .i64 30, .int .i64 a, .int .i64 b, .int .i64 o] 29) = V := ⟨_, rfl⟩
  rw [hV] at HB R0 R1
  simp only [hV]
  clear hV
  obtain ⟨y0, y1, y2⟩ := cells3V R0.out
  obtain ⟨o0, o1, o2, o3⟩ := cellsV R1.out
  have hcell := cell_be HB.out HCL.out
  have hf := cell_be HB.out HF.out
  go_upto_region 50 with fail
  go_region_held3 (fun w' => w'.cell? ⟨w.heap.size, 1, none⟩ = some (.slice (some ad) p.classes.length c1) ∧ w'.cell? ⟨w.heap.size + 1, 1, none⟩ = some (.int .i64 a) ∧ w'.cell? ⟨w.heap.size + 1, 2, none⟩ = some (.int .i64 b) ∧ w'.cell? (ad.add a.toNat) = some (.slice (some fd) N d0) ∧ w'.cell? (fd.add (b.toNat * 2)) = some (.int .i64 x)) (first | (exact ⟨y1, o1, o2, hcell, hf⟩) | go_keep) (fail)
  all_goals
    go_wp2_with fail
    go_ret2
    have hs := HB.out.size
    first
    | exact mv_ll HB.out.drew [2] [x] (by simp [maxLen]) (by simp [maxLen])
    | exact ⟨_, _, rfl, RI.lit (l := [2]) (heap_alloc2 _ _ _) (by simp [maxLen]), RI.lit (l := [x]) (row_alloc (heap_alloc_new _ _) _) (by simp [maxLen]), (HB.out.drew.alloc hs _).alloc (by simp; omega) _⟩
set_option maxRecDepth 100000 in
set_option maxHeartbeats 3200000 in
theorem reff_31 (hp : PgX w A0 c0 A1 c1 A2 c2 p) (k : Nat) (a b o : Int) (h0 : 0 ≤ a) (h1 : a < (p.classes.length : Int)) (b0 : 0 ≤ b) (b1 : b < ((PVerifyMethods.rd_L4 p.classes a).length : Int)) (x : Int) (hx : (PVerifyMethods.rd_T179 (PVerifyMethods.rd_L4 p.classes a) b).f0 = x) :
    Calls Tryd.prog 165 #[.agg #[.slice A0 p.pool.length c0, .slice A1 p.classes.length c1, .slice A2 p.methods.length c2], .int .i64 k, .agg #[.int .i64 31, .int .i64 a, .int .i64 b, .int .i64 o]] w (MvPost w [2, x] []) := by
  obtain ⟨ad, D0, d0, rfl, hcell, hle, hC⟩ := PVerifyMethods.at_L4 hp.pg.r1 a h0 h1
  obtain ⟨fd, rfl, hf, -⟩ := PVerifyMethods.at_T179 hC b b0 b1
  rw [hx] at hf
  obtain ⟨N, hN⟩ : ∃ N, (PVerifyMethods.rd_L4 p.classes a).length = N := ⟨_, rfl⟩
  rw [hN] at hcell b1
  have HCL := Lib.hid hcell
  have HF := Lib.hid hf
  clear hp hx hf hcell hle hC hN
  have hB : Below w.heap.size w ((w.alloc (obP A0 c0 (some ad) c1 A2 c2 p)).alloc (.cells #[.int .i64 31, .int .i64 a, .int .i64 b, .int .i64 o] 29)) := ((Below.refl _ w).alloc (Nat.le_refl _) _).alloc (by simp) _
  have r0 := row_alloc (heap_alloc_new w (obP A0 c0 (some ad) c1 A2 c2 p)) (.cells #[.int .i64 31, .int .i64 a, .int .i64 b, .int .i64 o] 29)
  have r1 := heap_alloc_new (w.alloc (obP A0 c0 (some ad) c1 A2 c2 p)) (.cells #[.int .i64 31, .int .i64 a, .int .i64 b, .int .i64 o] 29)
  simp only [World.size_alloc] at r1
  have HB := Lib.hid hB
  have R0 := Lib.hid r0
  have R1 := Lib.hid r1
  clear hB r0 r1
  go_enter Tryd.func165, Tryd.ntmps165
  go_upto_region 1 with fail
  obtain ⟨V, hV⟩ : ∃ V, (w.alloc (obP A0 c0 (some ad) c1 A2 c2 p)).alloc (.cells #[.int .i64 31, .int .i64 a, .int .i64 b, .int .i64 o] 29) = V := ⟨_, rfl⟩
  rw [hV] at HB R0 R1
  simp only [hV]
  clear hV
  obtain ⟨y0, y1, y2⟩ := cells3V R0.out
  obtain ⟨o0, o1, o2, o3⟩ := cellsV R1.out
  have hcell := cell_be HB.out HCL.out
  have hf := cell_be HB.out HF.out
  go_upto_region 52 with fail
  go_region_held3 (fun w' => w'.cell? ⟨w.heap.size, 1, none⟩ = some (.slice (some ad) p.classes.length c1) ∧ w'.cell? ⟨w.heap.size + 1, 1, none⟩ = some (.int .i64 a) ∧ w'.cell? ⟨w.heap.size + 1, 2, none⟩ = some (.int .i64 b) ∧ w'.cell? (ad.add a.toNat) = some (.slice (some fd) N d0) ∧ w'.cell? (fd.add (b.toNat * 2)) = some (.int .i64 x)) (first | (exact ⟨y1, o1, o2, hcell, hf⟩) | go_keep) (fail)
  all_goals
    go_wp2_with fail
    go_ret2
    have hs := HB.out.size
    first
    | exact mv_ln HB.out.drew [2, x] (by simp [maxLen])
theorem reff_calls (hp : PgX w A0 c0 A1 c1 A2 c2 p) (k : Nat) (hk : k < p.methods.length) (hl : (methS p k).f0.length ≤ 1000000 ∧ (methS p k).f2.length ≤ 1000000) (c a b o : Int) (h0 : 0 ≤ c) (h1 : c ≤ 40) (h6 : c ≠ 6 ∧ c ≠ 7 ∧ c ≠ 8) (hn : namedS p (methS p k) c a b = true) :
    Calls Tryd.prog 165 #[.agg #[.slice A0 p.pool.length c0, .slice A1 p.classes.length c1, .slice A2 p.methods.length c2], .int .i64 k, .agg #[.int .i64 c, .int .i64 a, .int .i64 b, .int .i64 o]] w (MvPost w (movesS p (methS p k) c a b).1 (movesS p (methS p k) c a b).2) := by
  have hc : c = 0 ∨ c = 25 ∨ c = 1 ∨ c = 2 ∨ c = 3 ∨ c = 29 ∨ c = 9 ∨ c = 10 ∨ c = 11 ∨ c = 12 ∨ c = 13 ∨ c = 14 ∨ c = 15 ∨ c = 16 ∨ c = 17 ∨ c = 18 ∨ c = 19 ∨ c = 21 ∨ c = 22 ∨ c = 20 ∨ c = 23 ∨ c = 24 ∨ c = 35 ∨ c = 38 ∨ c = 26 ∨ c = 39 ∨ c = 40 ∨ c = 32 ∨ c = 36 ∨ c = 37 ∨ c = 4 ∨ c = 5 ∨ c = 27 ∨ c = 28 ∨ c = 30 ∨ c = 31 ∨ c = 33 ∨ c = 34 := by omega
  rcases hc with rfl | rfl | rfl | rfl | rfl | rfl | rfl | rfl | rfl | rfl | rfl | rfl | rfl | rfl | rfl | rfl | rfl | rfl | rfl | rfl | rfl | rfl | rfl | rfl | rfl | rfl | rfl | rfl | rfl | rfl | rfl | rfl | rfl | rfl | rfl | rfl | rfl | rfl
  · exact reff_plain k 0 a b o [] [] (by simp)
  · exact reff_plain k 25 a b o [] [] (by simp)
  · exact reff_plain k 1 a b o [] [1] (by simp)
  · exact reff_plain k 2 a b o [] [1] (by simp)
  · exact reff_plain k 3 a b o [] [2] (by simp)
  · exact reff_plain k 29 a b o [] [2] (by simp)
  · exact reff_plain k 9 a b o [1, 1] [1] (by simp)
  · exact reff_plain k 10 a b o [1, 1] [1] (by simp)
  · exact reff_plain k 11 a b o [1, 1] [1] (by simp)
  · exact reff_plain k 12 a b o [1, 1] [1] (by simp)
  · exact reff_plain k 13 a b o [1, 1] [1] (by simp)
  · exact reff_plain k 14 a b o [1, 1] [1] (by simp)
  · exact reff_plain k 15 a b o [1, 1] [1] (by simp)
  · exact reff_plain k 16 a b o [1, 1] [1] (by simp)
  · exact reff_plain k 17 a b o [1, 1] [1] (by simp)
  · exact reff_plain k 18 a b o [1, 1] [1] (by simp)
  · exact reff_plain k 19 a b o [1, 1] [1] (by simp)
  · exact reff_plain k 21 a b o [1, 1] [1] (by simp)
  · exact reff_plain k 22 a b o [1, 1] [1] (by simp)
  · exact reff_plain k 20 a b o [1] [1] (by simp)
  · exact reff_plain k 23 a b o [2, 2] [1] (by simp)
  · exact reff_plain k 24 a b o [2] [1] (by simp)
  · exact reff_plain k 35 a b o [2] [1] (by simp)
  · exact reff_plain k 38 a b o [2] [1] (by simp)
  · exact reff_plain k 26 a b o [1] [] (by simp)
  · exact reff_plain k 39 a b o [1] [] (by simp)
  · exact reff_plain k 40 a b o [1] [] (by simp)
  · exact reff_plain k 32 a b o [1] [2] (by simp)
  · exact reff_plain k 36 a b o [2] [] (by simp)
  · exact reff_plain k 37 a b o [2] [] (by simp)
  · exact reff_4 hp k hk hl a b o hn _ rfl
  · exact reff_5 hp k hk hl a b o hn _ rfl
  · have hn' : 0 ≤ a ∧ a < (p.methods.length : Int) := by simpa [namedS] using hn
    obtain ⟨i, rfl⟩ : ∃ i : Nat, a = i := ⟨a.toNat, by omega⟩
    exact reff_27 hp k i (by omega) b o
  · exact reff_28 hp k hk a b o
  · have hf : (fieldS p a b).2.2 = true := by simpa [namedS] using hn
    have hb : ¬ (a < 0 ∨ (p.classes.length : Int) ≤ a ∨ b < 0 ∨ ((PVerifyMethods.rd_L4 p.classes a).length : Int) ≤ b) := fun hx => by
      unfold fieldS at hf
      rw [if_pos hx] at hf
      simp at hf
    refine reff_30 hp k a b o (by omega) (by omega) (by omega) (by omega) _ ?_
    show _ = (fieldS p a b).1
    unfold fieldS
    rw [if_neg hb]
  · have hf : (fieldS p a b).2.2 = true := by simpa [namedS] using hn
    have hb : ¬ (a < 0 ∨ (p.classes.length : Int) ≤ a ∨ b < 0 ∨ ((PVerifyMethods.rd_L4 p.classes a).length : Int) ≤ b) := fun hx => by
      unfold fieldS at hf
      rw [if_pos hx] at hf
      simp at hf
    refine reff_31 hp k a b o (by omega) (by omega) (by omega) (by omega) _ ?_
    show _ = (fieldS p a b).1
    unfold fieldS
    rw [if_neg hb]
  · exact reff_33 k a b o
  · exact reff_34 k a b o
end
end Go.Proofs.YtkphijabhoppnaaDoor
