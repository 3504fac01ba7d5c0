/- A region that draws its order, inside a fence: by what holds of each set of operations that have run. -/
import Derived.OrdersIn
namespace Go.Proofs.YtkphijabhoppnaaDoor
open Go
theorem count_less {A B : Nat → Bool} {i : Nat} : ∀ l : List Nat, i ∈ l → A i = true → B i = false → (∀ j, B j = true → A j = true) → l.countP B < l.countP A
  | [], h, _, _, _ => by cases h
  | x :: l, h, ha, hb, hs => by
    have hle : l.countP B ≤ l.countP A := List.countP_mono_left fun j _ hj => hs j hj
    rw [List.countP_cons, List.countP_cons]
    by_cases hx : i = x
    · subst hx
      rw [ha, hb]
      simp
      omega
    · have hm : i ∈ l := by
        rcases List.mem_cons.1 h with h | h
        · exact absurd h hx
        · exact h
      have := count_less l hm ha hb hs
      have h2 := hs x
      cases hB : B x <;> cases hA : A x
      · simp; omega
      · simp; omega
      · rw [h2 hB] at hA; cases hA
      · simp; omega
theorem any_inv {F : Fence} {n : Nat} {P : Program} {md : Region.Mode} {ops : Array Oper} {Q : Exit → Act → World → Prop} {S : Array Bool → Act → World → Prop}
    (hstep : ∀ listed a w, S listed a w → ∀ i ∈ Region.ready md ops listed, wpOpIn F n P ops Q i (S (listed.setIfInBounds i true)) a w)
    (hend : ∀ listed a w, S listed a w → Region.ready md ops listed = [] → Q .normal a w) :
    ∀ (fuel : Nat) (listed : Array Bool) (a : Act) (w : World), S listed a w → (List.range ops.size).countP (fun i => !listed.getD i true) ≤ fuel → wpAnyIn F n P md ops Q fuel listed a w := by
  intro fuel
  induction fuel with
  | zero =>
    intro listed a w hs hc
    have hr : Region.ready md ops listed = [] := by
      rw [Region.ready, List.filter_eq_nil_iff]
      intro i hi
      have := List.countP_eq_zero.1 (Nat.le_zero.1 hc) i hi
      simp at this
      simp [this]
    exact ⟨hr, hend listed a w hs hr⟩
  | succ fuel ih =>
    intro listed a w hs hc
    refine ⟨fun hr => hend listed a w hs hr, fun i hi => wpOpIn_mono (fun a' w' h => ih _ a' w' h ?_) (hstep listed a w hs i hi)⟩
    have hi2 := hi
    rw [Region.ready, List.mem_filter] at hi2
    obtain ⟨hir, hif⟩ := hi2
    have hl : listed.getD i true = false := by
      simp only [Bool.and_eq_true, Bool.not_eq_true'] at hif
      exact hif.1
    have hlt : i < listed.size := by
      refine Decidable.byContradiction fun hn => ?_
      rw [Array.getD_eq_getD_getElem?, Array.getElem?_eq_none (by omega)] at hl
      cases hl
    have key : (List.range ops.size).countP (fun j => !(listed.setIfInBounds i true).getD j true) < (List.range ops.size).countP (fun j => !listed.getD j true) := by
      refine count_less _ hir ?_ ?_ fun j hj => ?_
      · simp [hl]
      · simp [hlt]
      · by_cases hij : i = j
        · subst hij; simp [hl]
        · simp only [Array.getD_eq_getD_getElem?, Array.getElem?_setIfInBounds_ne hij] at hj ⊢
          exact hj
    omega
end Go.Proofs.YtkphijabhoppnaaDoor
