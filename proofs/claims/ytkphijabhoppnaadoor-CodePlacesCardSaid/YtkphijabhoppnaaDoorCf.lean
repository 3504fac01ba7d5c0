/- A bytecode read, at any bytes and any place (brazier/code.Read). -/
import Derived.Test.YtkphijabhoppnaaDoorCe
namespace Go.Proofs.YtkphijabhoppnaaDoor
open Go.RowKit
set_option linter.unusedSimpArgs false
set_option linter.unusedVariables false

/-- The slice value v reads as the bytes l. -/
def Byt (w : World) (v : Value) (l : List Int) : Prop :=
  ∃ (A : Option Addr) (c : Nat), v = .slice A l.length c ∧ l.length ≤ c ∧ c ≤ 9223372036854775807 ∧ (∀ x ∈ l, 0 ≤ x ∧ x ≤ 255) ∧
    (l ≠ [] → ∃ b off, A = some ⟨b, off, none⟩ ∧ ∀ j, j < l.length → w.cell? ⟨b, off + j, none⟩ = some (.int .u8 (l.getD j 0)))
theorem Byt.below {w w1 : World} {v : Value} {l : List Int} (h : Byt w v l) (hb : Below w.heap.size w w1) : Byt w1 v l := by
  obtain ⟨A, c, e, h1, h2, h3, h4⟩ := h
  refine ⟨A, c, e, h1, h2, h3, fun hn => ?_⟩
  obtain ⟨b, off, e2, hc⟩ := h4 hn
  exact ⟨b, off, e2, fun j hj => cell_be hb (hc j hj)⟩

/-- Read, as the document has it. -/
def readK (l : List Int) (i : Nat) (x : Int) : Nat → Rd
  | 0 => ⟨x, 0, 0, 1, 0⟩
  | 1 => if i + 1 < l.length then ⟨x, l.getD (i + 1) 0, 0, 2, 0⟩ else ⟨0, 0, 0, 0, 6⟩
  | 2 => if i + 1 < l.length then ⟨x, s8 (l.getD (i + 1) 0), 0, 2, 0⟩ else ⟨0, 0, 0, 0, 6⟩
  | 3 => if i + 2 < l.length then ⟨x, s16 (l.getD (i + 1) 0) (l.getD (i + 2) 0), 0, 3, 0⟩ else ⟨0, 0, 0, 0, 6⟩
  | _ => if i + 2 < l.length then ⟨x, l.getD (i + 1) 0, l.getD (i + 2) 0, 3, 0⟩ else ⟨0, 0, 0, 0, 6⟩
def readAt (l : List Int) (i : Nat) : Rd := if 40 < l.getD i 0 then ⟨0, 0, 0, 0, 5⟩ else readK l i (l.getD i 0) (opk (l.getD i 0))
def readS (l : List Int) (at' : Int) : Rd :=
  if at' < 0 ∨ (l.length : Int) < at' then ⟨0, 0, 0, 0, 1⟩ else if at' = l.length then ⟨0, 0, 0, 0, 6⟩ else readAt l at'.toNat

theorem read_calls (v : Value) (l : List Int) (at' : Int) (w : World) (hG : Glob w) (hb : Byt w v l) :
    Calls Tryd.prog 13 #[v, .int .i64 at'] w fun e w' => e = .returned (readS l at').val ∧ Below w.heap.size w w' := by
  obtain ⟨A, c, rfl, hnc, hcm, hby, hcl⟩ := hb
  unfold readS
  by_cases h1 : at' < 0 ∨ (l.length : Int) < at'
  · rw [if_pos h1]
    exact read_arg A _ c at' w h1
  · rw [if_neg h1]
    by_cases h2 : at' = l.length
    · rw [if_pos h2, h2]
      exact read_end A _ c w
    · rw [if_neg h2]
      obtain ⟨i, rfl⟩ := Int.eq_ofNat_of_zero_le (show 0 ≤ at' by omega)
      have hi : i < l.length := by omega
      obtain ⟨b, off, rfl, hc⟩ := hcl (by intro h; rw [h] at hi; simp at hi)
      have hcell := hc i hi
      have hxb := hby (l.getD i 0) (by rw [List.getD_eq_getElem?_getD, List.getElem?_eq_getElem hi]; exact List.getElem_mem hi)
      have byte : ∀ j, j < l.length → 0 ≤ l.getD j 0 ∧ l.getD j 0 ≤ 255 := fun j hj => hby (l.getD j 0) (by rw [List.getD_eq_getElem?_getD, List.getElem?_eq_getElem hj]; exact List.getElem_mem hj)
      rw [Int.toNat_natCast]
      unfold readAt
      obtain ⟨x, hx⟩ := Int.eq_ofNat_of_zero_le hxb.1
      rw [hx] at hcell hxb ⊢
      by_cases h40 : (40 : Int) < x
      · rw [if_pos h40]
        exact read_form b off _ c i x w hi h40 hxb.2 hcell
      · rw [if_neg h40]
        have hx40 : x ≤ 40 := by omega
        rcases opk_le x with hk | hk | hk | hk | hk <;> rw [hk] <;> simp only [readK]
        · exact read_k0 b off _ c i x w hG hi hx40 hk hcell
        · by_cases h : i + 1 < l.length
          · rw [if_pos h]
            exact read_k1 b off _ c i x _ w hG hnc hcm hx40 hk h (byte _ h).1 (byte _ h).2 hcell (hc _ h)
          · rw [if_neg h]
            exact read_k1s b off _ c i x w hG hnc hcm hx40 hk (by omega) hcell
        · by_cases h : i + 1 < l.length
          · rw [if_pos h]
            exact read_k2 b off _ c i x _ w hG hnc hcm hx40 hk h (byte _ h).1 (byte _ h).2 hcell (hc _ h)
          · rw [if_neg h]
            exact read_k2s b off _ c i x w hG hnc hcm hx40 hk (by omega) hcell
        · by_cases h : i + 2 < l.length
          · rw [if_pos h]
            exact read_k3 b off _ c i x _ _ w hG hnc hcm hx40 hk h (byte _ (by omega)).1 (byte _ (by omega)).2 (byte _ h).1 (byte _ h).2 hcell (hc _ (by omega)) (hc _ h)
          · rw [if_neg h]
            exact read_k3s b off _ c i x w hG hnc hcm hx40 hk hi (by omega) hcell
        · by_cases h : i + 2 < l.length
          · rw [if_pos h]
            exact read_k4 b off _ c i x _ _ w hG hnc hcm hx40 hk h (byte _ (by omega)).1 (byte _ (by omega)).2 (byte _ h).1 (byte _ h).2 hcell (hc _ (by omega)) (hc _ h)
          · rw [if_neg h]
            by_cases h' : i + 1 < l.length
            · exact read_k4t b off _ c i x _ w hG hnc hcm hx40 hk h' (by omega) (byte _ h').1 (byte _ h').2 hcell (hc _ h')
            · exact read_k4s b off _ c i x w hG hnc hcm hx40 hk (by omega) hcell
end Go.Proofs.YtkphijabhoppnaaDoor
