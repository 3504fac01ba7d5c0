/- What a bytecode takes and puts, whichever it is; the shuffles; equal rows; copies. -/
import Derived.Test.YtkphijabhoppnaaDoorAVd
import Derived.Test.YtkphijabhoppnaaDoorAPVerifyMethodsx5
namespace Go.Proofs.YtkphijabhoppnaaDoor
open Go.RowKit Go.Proofs.YtkphijabhoppnaaDoorW.PrintWords
set_option linter.unusedSimpArgs false
set_option linter.unusedVariables false
section
variable {w : World} {A0 A1 A2 B0 B2 B4 : Option Addr} {c0 c1 c2 d0 d2 d4 : Nat} {p : Pg} {m : Meth}
theorem moves_calls (c a b s : Int) (h0 : 0 ≤ c) (h1 : c ≤ 40) (h6 : c ≠ 6 ∧ c ≠ 7 ∧ c ≠ 8) (hn : namedS p m c a b = true) (hp : PgC w A0 c0 A1 c1 A2 c2 p) (hm : MtC w B0 d0 B2 d2 B4 d4 m) (ha : I64 a) :
    Calls Tryd.prog 111 #[.agg #[.slice A0 p.pool.length c0, .slice A1 p.classes.length c1, .slice A2 p.methods.length c2], .agg #[.slice B0 m.f0.length d0, .int .i64 m.f1, .slice B2 m.f2.length d2, .int .i64 m.f3, .slice B4 m.f4.length d4], .agg #[.int .i64 c, .int .i64 a, .int .i64 b, .int .i64 s]] w (MvPost w (movesS p m c a b).1 (movesS p m c a b).2) := by
  have hc : c = 0 ∨ c = 1 ∨ c = 2 ∨ c = 3 ∨ c = 4 ∨ c = 5 ∨ c = 9 ∨ c = 10 ∨ c = 11 ∨ c = 12 ∨ c = 13 ∨ c = 14 ∨ c = 15 ∨ c = 16 ∨ c = 17 ∨ c = 18 ∨ c = 19 ∨ c = 20 ∨ c = 21 ∨ c = 22 ∨ c = 23 ∨ c = 24 ∨ c = 25 ∨ c = 26 ∨ c = 27 ∨ c = 28 ∨ c = 29 ∨ c = 30 ∨ c = 31 ∨ c = 32 ∨ c = 33 ∨ c = 34 ∨ c = 35 ∨ c = 36 ∨ c = 37 ∨ c = 38 ∨ c = 39 ∨ c = 40 := by omega
  rcases hc with rfl | rfl | rfl | rfl | rfl | rfl | rfl | rfl | rfl | rfl | rfl | rfl | rfl | rfl | rfl | rfl | rfl | rfl | rfl | rfl | rfl | rfl | rfl | rfl | rfl | rfl | rfl | rfl | rfl | rfl | rfl | rfl | rfl | rfl | rfl | rfl | rfl | rfl
  · exact moves_0 a b s
  · exact moves_1 a b s
  · exact moves_2 a b s
  · exact moves_3 a b s
  · exact moves_4 a b s hm ha
  · exact moves_5 a b s hm ha
  · exact moves_9 a b s
  · exact moves_10 a b s
  · exact moves_11 a b s
  · exact moves_12 a b s
  · exact moves_13 a b s
  · exact moves_14 a b s
  · exact moves_15 a b s
  · exact moves_16 a b s
  · exact moves_17 a b s
  · exact moves_18 a b s
  · exact moves_19 a b s
  · exact moves_20 a b s
  · exact moves_21 a b s
  · exact moves_22 a b s
  · exact moves_23 a b s
  · exact moves_24 a b s
  · exact moves_25 a b s
  · exact moves_26 a b s
  · have hn' : 0 ≤ a ∧ a < (p.methods.length : Int) := by simpa [namedS] using hn
    exact moves_27 a b s hp hn'.1 hn'.2
  · exact moves_28 a b s
  · exact moves_29 a b s
  · exact moves_30 a b s hp
  · exact moves_31 a b s hp
  · exact moves_32 a b s
  · exact moves_33 a b s
  · exact moves_34 a b s
  · exact moves_35 a b s
  · exact moves_36 a b s
  · exact moves_37 a b s
  · exact moves_38 a b s
  · exact moves_39 a b s
  · exact moves_40 a b s
end
def shuffleS (c : Int) (l : List Int) : Option (List Int) :=
  if l.length < 1 ∨ (l.length < 2 ∧ c = 8) then none
  else if c = 6 then some (l ++ [l.getD (l.length - 1) 0])
  else if c = 7 then some (l.take (l.length - 1))
  else some ((l.set (l.length - 1) (l.getD (l.length - 2) 0)).set (l.length - 2) (l.getD (l.length - 1) 0))
theorem shuffle_eq (c a b s : Int) (l : List Int) (hc : c = 6 ∨ c = 7 ∨ c = 8) (hl : l.length ≤ 1000000) : PVerifyMethods.verify_shuffle.f 1 c a b s l = some (match shuffleS c l with | some r => (r, true) | none => ([], false)) := by
  unfold PVerifyMethods.verify_shuffle.f shuffleS
  by_cases h1 : l.length < 1
  · rw [if_pos (by omega), if_pos (.inl h1), PVerifyMethods.verify_shuffle.j0, if_pos rfl]
  · have e1 : (wrap64 ((l.length : Int) - 1)) = ((l.length - 1 : Nat) : Int) := by rw [w64v _ (by omega)]; omega
    rw [if_neg (by omega)]
    by_cases h2 : l.length < 2
    · rw [if_pos (by omega)]
      by_cases h8 : c = 8
      · rw [if_pos (.inr ⟨h2, h8⟩), PVerifyMethods.verify_shuffle.j0, if_pos (by simp [h8])]
      · rw [if_neg (by omega), PVerifyMethods.verify_shuffle.j0, if_neg (by simpa using h8)]
        by_cases h6 : c = 6
        · rw [if_pos h6, if_pos h6, e1, if_pos (by omega), if_pos (by omega), if_pos (by omega)]
          simp [rd]
        · have h7 : c = 7 := by omega
          rw [if_neg h6, if_neg h6, if_pos h7, if_pos h7, e1, if_pos (by omega), if_pos (by omega)]
          simp
    · have e2 : (wrap64 ((l.length : Int) - 2)) = ((l.length - 2 : Nat) : Int) := by rw [w64v _ (by omega)]; omega
      rw [if_neg (by omega), if_neg (by omega), PVerifyMethods.verify_shuffle.j0, if_neg (by simp)]
      by_cases h6 : c = 6
      · rw [if_pos h6, if_pos h6, e1, if_pos (by omega), if_pos (by omega), if_pos (by omega)]
        simp [rd]
      · rw [if_neg h6, if_neg h6]
        by_cases h7 : c = 7
        · rw [if_pos h7, if_pos h7, e1, if_pos (by omega), if_pos (by omega)]
          simp
        · rw [if_neg h7, if_neg h7, e1, e2, if_pos (by omega), if_pos (by omega), if_pos (by omega), if_pos (by omega)]
          simp [rd]
theorem int_spot {k : IntKind} {w : World} {A0 : Option Addr} {l : List Int} (h : Kd.C (Kd.int k) w A0 l.length l) (hl : 0 < (l.length : Int)) :
    ∃ A off, A0 = some ⟨A, off, none⟩ ∧ ∀ j : Nat, j < l.length → w.cell? ⟨A, off + j, none⟩ = some (.int k (l.getD j 0)) := by
  obtain ⟨a, rfl, hx⟩ := Kd.at_int h 0 (Int.le_refl _) hl
  have hsp : a.spot = none := by
    rw [show a.add (0 : Int).toNat = a from rfl] at hx
    unfold World.cell? at hx
    split at hx
    · split at hx
      · simp at hx
      · rename_i hs; simpa using hs
    · simp at hx
  obtain ⟨b, off, spot⟩ := a
  dsimp only at hsp
  subst hsp
  refine ⟨b, off, rfl, fun j hj => ?_⟩
  obtain ⟨a2, e2, hx2⟩ := Kd.at_int h (j : Int) (by omega) (by omega)
  cases e2
  have ha : (⟨b, off, none⟩ : Addr).add j = ⟨b, off + j, none⟩ := by unfold Addr.add; split <;> simp_all
  rw [Int.toNat_natCast, ha] at hx2
  exact hx2
theorem equal_from (l r : List Int) (hlr : l.length = r.length) (hl : l.length ≤ 1000000) : ∀ (d i k : Nat), i + d = l.length → d < k → PVerifyMethods.slices_Equal_int_int.l0 k l r (l.length : Int) i = some (decide (l.drop i = r.drop i)) := by
  intro d
  induction d with
  | zero =>
    intro i k hi hk
    obtain ⟨k, rfl⟩ : ∃ q, k = q + 1 := ⟨k - 1, by omega⟩
    rw [PVerifyMethods.slices_Equal_int_int.l0, if_neg (by omega), List.drop_eq_nil_of_le (by omega), List.drop_eq_nil_of_le (by omega)]
    rfl
  | succ d ih =>
    intro i k hi hk
    obtain ⟨k, rfl⟩ : ∃ q, k = q + 1 := ⟨k - 1, by omega⟩
    have h1 : i < l.length := by omega
    have h2 : i < r.length := by omega
    have e1 : wrap64 ((i : Int) + 1) = ((i + 1 : Nat) : Int) := by rw [w64v _ (by omega)]; omega
    rw [PVerifyMethods.slices_Equal_int_int.l0, if_pos (by omega), if_pos (by omega), if_pos (by omega), if_pos (by omega), List.drop_eq_getElem_cons h1, List.drop_eq_getElem_cons h2]
    have g1 : rd l (i : Int) = l[i] := by simp [rd, h1]
    have g2 : rd r (i : Int) = r[i] := by simp [rd, h2]
    rw [g1, g2]
    by_cases he : l[i] = r[i]
    · rw [if_pos he, e1, ih (i + 1) k (by omega) (by omega)]
      exact congrArg some (decide_eq_decide.2 ⟨fun h => by rw [he, h], fun h => (List.cons.inj h).2⟩)
    · rw [if_neg he]
      exact congrArg some (decide_eq_false (fun h => he (List.cons.inj h).1)).symm
theorem equal_eq (l r : List Int) (hl : l.length ≤ 1000000) : PVerifyMethods.slices_Equal_int_int.f (l.length + 1) l r = some (decide (l = r)) := by
  unfold PVerifyMethods.slices_Equal_int_int.f
  by_cases h : l.length = r.length
  · rw [if_pos (by omega), show (0 : Int) = ((0 : Nat) : Int) from rfl, equal_from l r h hl l.length 0 _ (by omega) (by omega)]
    simp
  · rw [if_neg (by omega)]
    congr 1
    symm
    rw [decide_eq_false_iff_not]
    intro e
    exact h (by rw [e])
theorem equal_calls {w : World} {A B : Option Addr} {c d : Nat} {l r : List Int} (h1 : Kd.C (Kd.int .i64) w A l.length l) (h1c : l.length ≤ c) (h2 : Kd.C (Kd.int .i64) w B r.length r) (h2c : r.length ≤ d) (hl : l.length ≤ 1000000) :
    Calls Tryd.prog 112 #[.slice A l.length c, .slice B r.length d] w fun e w' => e = .returned (.bool (decide (l = r))) ∧ Below w.heap.size w w' :=
  (PVerifyMethods.slices_Equal_int_int.calls (l.length + 1) A c l B d r _ w h1 h1c h2 h2c (equal_eq l r hl)).mono fun _ _ ⟨h1, h2⟩ => ⟨h1, h2.below⟩
theorem clone_calls {w : World} {A : Option Addr} {c : Nat} {l : List Int} (h : Kd.C (Kd.int .i64) w A l.length l) (hl : l.length ≤ 1000000) :
    Calls Tryd.prog 109 #[.slice A l.length c] w fun e w' => ∃ v', e = .returned v' ∧ w'.ownsRow w.heap.size 3 1 v' l.length (nums .i64 l) ∧ Below w.heap.size w w' := by
  cases A with
  | none =>
    have h0 : l = [] := by
      cases l with
      | nil => rfl
      | cons x xs =>
        obtain ⟨ad, e, _⟩ := h.2.2 (by simp)
        cases e
    subst h0
    refine (Tryd.slices_Clone_int_nil 0 c w).mono ?_
    rintro e w' ⟨rfl, rfl⟩
    exact ⟨_, rfl, ⟨rfl, .inl ⟨rfl, rfl⟩⟩, Below.refl _ _⟩
  | some a =>
    by_cases h0 : l = []
    · subst h0
      refine (Tryd.slices_Clone_int_zero a c w).mono ?_
      rintro e w' ⟨v, rfl, h1, -, h2⟩
      exact ⟨v, rfl, h1, h2⟩
    · obtain ⟨b, off, e, hc⟩ := int_spot h (by have := List.length_pos_iff.2 h0; omega)
      cases e
      refine (Tryd.slices_Clone_int b off l.length c l w (Nat.le_refl _) (by omega) (fun j hj => by rw [hc j hj])).mono ?_
      rintro e w' ⟨v, rfl, h1, -, h2⟩
      rw [List.take_length] at h1
      exact ⟨v, rfl, h1, h2⟩
end Go.Proofs.YtkphijabhoppnaaDoor
