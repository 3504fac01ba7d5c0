/- Another Stack of a method: what the walk comes to, in plain terms. -/
import Derived.Test.YtkphijabhoppnaaDoorAVq
namespace Go.Proofs.YtkphijabhoppnaaDoor
open Go.RowKit
set_option linter.unusedSimpArgs false
set_option linter.unusedVariables false

def stk (m : Meth) (s : Int) : Meth := ⟨m.f0, m.f1, m.f2, s, m.f4⟩
def stkP (p : Pg) (k : Nat) (s : Int) : Pg := ⟨p.pool, p.classes, p.methods.set k (stk (methS p k) s)⟩
theorem methS_stk (p : Pg) (k : Nat) (s a : Int) : (methS (stkP p k s) a).f0 = (methS p a).f0 ∧ (methS (stkP p k s) a).f1 = (methS p a).f1 := by
  unfold methS PVerifyMethods.rd_T64 stkP
  dsimp only
  by_cases h : k = a.toNat
  · subst h
    by_cases hl : a.toNat < p.methods.length
    · rw [getD_set_self hl]
      exact ⟨rfl, rfl⟩
    · rw [List.set_eq_of_length_le (by omega)]
      exact ⟨rfl, rfl⟩
  · rw [getD_set_ne h]
    exact ⟨rfl, rfl⟩
theorem methS_stk_self (p : Pg) (k : Nat) (s : Int) (hk : k < p.methods.length) : methS (stkP p k s) k = stk (methS p k) s := by
  show (p.methods.set k (stk (methS p k) s)).getD (Int.toNat k) _ = _
  rw [Int.toNat_natCast, getD_set_self hk]
section
variable {p : Pg} {m : Meth} {k : Nat} {s S : Int}
theorem few_stk (h : FewPar p) : FewPar (stkP p k s) := fun n => by rw [(methS_stk p k s n).1]; exact h n
theorem moves_stk (c a b : Int) : movesS (stkP p k s) (stk m s) c a b = movesS p m c a b := by
  have h := methS_stk p k s a
  have hf : fieldS (stkP p k s) a b = fieldS p a b := rfl
  have hl : localS (stk m s) a = localS m a := rfl
  have h1 : (stk m s).f1 = m.f1 := rfl
  unfold movesS
  rw [h.1, h.2, hf, hl, h1]
theorem effect_stk (c a b : Int) (x : Shp) : effectS (stkP p k s) (stk m s) c a b x = effectS p m c a b x := by
  unfold effectS
  rw [moves_stk]
theorem thread_stk (n : Int) : threadS (stkP p k s) n = threadS p n := by
  have h := methS_stk p k s n
  have hl : (stkP p k s).methods.length = p.methods.length := List.length_set
  unfold threadS
  rw [h.1, h.2, hl]
theorem named_stk (c a b : Int) : namedS (stkP p k s) (stk m s) c a b = namedS p m c a b := by
  have hf : fieldS (stkP p k s) a b = fieldS p a b := rfl
  have hl : (stkP p k s).methods.length = p.methods.length := List.length_set
  have hc : (stkP p k s).classes = p.classes := rfl
  have hp : (stkP p k s).pool = p.pool := rfl
  have hlo : localS (stk m s) a = localS m a := rfl
  unfold namedS
  rw [thread_stk, hf, hl, hc, hp, hlo]
theorem bad_stk (n : Nat) (begins : List Bool) (x : Nat × Rd) : badS (stkP p k s) (stk m s) n begins x = badS p m n begins x := by
  unfold badS
  rw [named_stk]
theorem opnd_stk (n : Nat) (begins : List Bool) : ∀ xs : List (Nat × Rd), opndS (stkP p k s) (stk m s) n begins xs = opndS p m n begins xs
  | [] => rfl
  | x :: xs => by rw [opndS, opndS, bad_stk, opnd_stk]
/-- Too little of it is the only thing that may go wrong. -/
theorem through_less (hs : s ≤ S) (n : Nat) (sh : List Shp) (has : List Bool) (i : Nat) (h : (throughS (stkP p k S) (stk m S) n sh has i).2 = 0) :
    throughS (stkP p k s) (stk m s) n sh has i = throughS (stkP p k S) (stk m S) n sh has i ∨ (throughS (stkP p k s) (stk m s) n sh has i).2 = 22 := by
  unfold throughS at h ⊢
  rw [effect_stk] at h
  rw [effect_stk, effect_stk]
  have e4 : ∀ t, (stk m t).f4 = m.f4 := fun _ => rfl
  have e3 : ∀ t, (stk m t).f3 = t := fun _ => rfl
  rw [e4, e3] at h
  rw [e4, e4, e3, e3]
  obtain ⟨x, hx⟩ : ∃ x, effectS p m (readAt m.f4 i).code (readAt m.f4 i).a (readAt m.f4 i).b (sh.getD i ([], 0)) = x := ⟨_, rfl⟩
  rw [hx] at h ⊢
  by_cases h1 : x.2 ≠ 0
  · rw [if_pos h1] at h; exact absurd h h1
  · rw [if_neg h1] at h ⊢
    rw [if_neg h1]
    by_cases h2 : S < (x.1.1.length : Int) ∨ ((readAt m.f4 i).code = 28 ∧ 0 < x.1.1.length)
    · rw [if_pos h2] at h; simp at h
    · by_cases h3 : s < (x.1.1.length : Int)
      · rw [if_pos (.inl h3)]; exact .inr rfl
      · rw [if_neg h2, if_neg (show ¬ (s < (x.1.1.length : Int) ∨ ((readAt m.f4 i).code = 28 ∧ 0 < x.1.1.length)) from fun h => h.elim h3 fun h => h2 (.inr h))]
        exact .inl rfl
theorem through_more (hs : s ≤ S) (n : Nat) (sh : List Shp) (has : List Bool) (i : Nat) (h : (throughS (stkP p k s) (stk m s) n sh has i).2 = 0) :
    throughS (stkP p k S) (stk m S) n sh has i = throughS (stkP p k s) (stk m s) n sh has i := by
  unfold throughS at h ⊢
  rw [effect_stk] at h
  rw [effect_stk, effect_stk]
  have e4 : ∀ t, (stk m t).f4 = m.f4 := fun _ => rfl
  have e3 : ∀ t, (stk m t).f3 = t := fun _ => rfl
  rw [e4, e3] at h
  rw [e4, e4, e3, e3]
  obtain ⟨x, hx⟩ : ∃ x, effectS p m (readAt m.f4 i).code (readAt m.f4 i).a (readAt m.f4 i).b (sh.getD i ([], 0)) = x := ⟨_, rfl⟩
  rw [hx] at h ⊢
  by_cases h1 : x.2 ≠ 0
  · rw [if_pos h1] at h; exact absurd h h1
  · rw [if_neg h1] at h ⊢
    rw [if_neg h1]
    by_cases h2 : s < (x.1.1.length : Int) ∨ ((readAt m.f4 i).code = 28 ∧ 0 < x.1.1.length)
    · rw [if_pos h2] at h; simp at h
    · rw [if_neg h2, if_neg (show ¬ (S < (x.1.1.length : Int) ∨ ((readAt m.f4 i).code = 28 ∧ 0 < x.1.1.length)) from fun h => h.elim (fun h => h2 (.inl (by omega))) fun h => h2 (.inr h))]
theorem all_less (hs : s ≤ S) (n : Nat) : ∀ (f : Nat) (sh : List Shp) (has done : List Bool), (allS (stkP p k S) (stk m S) n f sh has done).1.2 = 0 →
    (allS (stkP p k s) (stk m s) n f sh has done).1.2 = 0 ∨ (allS (stkP p k s) (stk m s) n f sh has done).1.2 = 22
  | 0, _, _, _, _ => .inl rfl
  | f + 1, sh, has, done, h => by
    rw [allS] at h ⊢
    cases hf : findS n has done with
    | none => exact .inl rfl
    | some i =>
      rw [hf] at h
      dsimp only at h ⊢
      by_cases h1 : (throughS (stkP p k S) (stk m S) n sh has i).2 ≠ 0
      · rw [if_pos h1] at h; exact absurd h h1
      · rw [if_neg h1] at h
        rcases through_less hs n sh has i (Decidable.not_not.1 h1) with e | e
        · rw [e, if_neg h1]
          exact all_less hs n f _ _ _ h
        · rw [if_pos (by rw [e]; decide)]
          exact .inr e
theorem all_more (hs : s ≤ S) (n : Nat) : ∀ (f : Nat) (sh : List Shp) (has done : List Bool), (allS (stkP p k s) (stk m s) n f sh has done).1.2 = 0 →
    (allS (stkP p k S) (stk m S) n f sh has done).1.2 = 0
  | 0, _, _, _, _ => rfl
  | f + 1, sh, has, done, h => by
    rw [allS] at h ⊢
    cases hf : findS n has done with
    | none => rfl
    | some i =>
      rw [hf] at h
      dsimp only at h ⊢
      by_cases h1 : (throughS (stkP p k s) (stk m s) n sh has i).2 ≠ 0
      · rw [if_pos h1] at h; exact absurd h h1
      · rw [if_neg h1] at h
        rw [through_more hs n sh has i (Decidable.not_not.1 h1), if_neg h1]
        exact all_more hs n f _ _ _ h
theorem method_less (hs : s ≤ S) (h : (methodS (stkP p k S) (stk m S)).1.2 = 0) : (methodS (stkP p k s) (stk m s)).1.2 = 0 ∨ (methodS (stkP p k s) (stk m s)).1.2 = 22 := by
  unfold methodS at h ⊢
  have e4 : ∀ t, (stk m t).f4 = m.f4 := fun _ => rfl
  rw [e4, opnd_stk] at h
  rw [e4, opnd_stk]
  by_cases h1 : (placesS m.f4).2 ≠ 0
  · rw [if_pos h1] at h; exact absurd h h1
  · rw [if_neg h1] at h ⊢
    by_cases h2 : (opndS p m m.f4.length (beginsS m.f4) (opsL m.f4)).2 ≠ 0
    · rw [if_pos h2] at h; exact absurd h h2
    · rw [if_neg h2] at h ⊢
      exact all_less hs _ _ _ _ _ h
theorem method_more (hs : s ≤ S) (h : (methodS (stkP p k s) (stk m s)).1.2 = 0) : (methodS (stkP p k S) (stk m S)).1.2 = 0 := by
  unfold methodS at h ⊢
  have e4 : ∀ t, (stk m t).f4 = m.f4 := fun _ => rfl
  rw [e4, opnd_stk] at h
  rw [e4, opnd_stk]
  by_cases h1 : (placesS m.f4).2 ≠ 0
  · rw [if_pos h1] at h; exact absurd h h1
  · rw [if_neg h1] at h ⊢
    by_cases h2 : (opndS p m m.f4.length (beginsS m.f4) (opsL m.f4)).2 ≠ 0
    · rw [if_pos h2] at h; exact absurd h h2
    · rw [if_neg h2] at h ⊢
      exact all_more hs _ _ _ _ _ h
end

theorem sizes_stk {m : Meth} (h : sizesS m = 0) (s : Int) (hs : 0 ≤ s ∧ s ≤ 40) : sizesS (stk m s) = 0 := by
  have hz := sizes_zero h
  unfold sizesS at h ⊢
  have e0 : (stk m s).f0 = m.f0 := rfl
  have e1 : (stk m s).f1 = m.f1 := rfl
  have e2 : (stk m s).f2 = m.f2 := rfl
  have e3 : (stk m s).f3 = s := rfl
  have e4 : (stk m s).f4 = m.f4 := rfl
  rw [e0, e1, e2, e3, e4]
  rw [if_neg (by omega)] at h ⊢
  by_cases h2 : m.f3 < 0 ∨ m.f1 < 0 ∨ 2 < m.f1
  · rw [if_pos h2] at h; simp at h
  · rw [if_neg (by omega), if_neg (by omega)]
theorem set_same {α β : Type} (f : α → β) (l : List α) (k : Nat) (d x : α) (h : f x = f (l.getD k d)) : (l.set k x).map f = l.map f := by
  rw [List.map_set]
  by_cases hk : k < l.length
  · rw [h, List.getD_eq_getElem?_getD, List.getElem?_eq_getElem hk]
    have : (l.map f)[k]'(by simpa using hk) = f l[k] := by simp
    show (l.map f).set k (f l[k]) = _
    rw [← this, List.set_getElem_self]
  · rw [List.set_eq_of_length_le (by simpa using hk)]
theorem types_stk (p : Pg) (k : Nat) (s : Int) : typesS (stkP p k s) = typesS p := by
  unfold typesS
  have e : (stkP p k s).methods.map (fun m => m.f0 ++ m.f2) = p.methods.map fun m => m.f0 ++ m.f2 := set_same _ p.methods k PVerifyMethods.z64 _ rfl
  rw [e]
  rfl
theorem check_stk {p : Pg} {k : Nat} (h : checkS p = 0) (hk : k < p.methods.length) (s : Int) (hs : 0 ≤ s ∧ s ≤ 40) : checkS (stkP p k s) = 0 := by
  obtain ⟨-, hsz, -⟩ := check_sizes h
  have hl : (stkP p k s).methods.length = p.methods.length := List.length_set
  have hm := methS_stk p k s 0
  have hf : firstS (stkP p k s).methods = 0 := by
    rw [first_zero]
    intro m hm
    rcases List.mem_or_eq_of_mem_set hm with h1 | h1
    · exact hsz m h1
    · subst h1
      refine sizes_stk (hsz _ ?_) s hs
      show p.methods.getD (Int.toNat k) _ ∈ p.methods
      rw [Int.toNat_natCast, List.getD_eq_getElem?_getD, List.getElem?_eq_getElem hk]
      exact List.getElem_mem hk
  have hf0 := (first_zero _).2 hsz
  unfold checkS at h ⊢
  have hc : (stkP p k s).classes = p.classes := rfl
  have hp : (stkP p k s).pool = p.pool := rfl
  have hwi : wideS (stkP p k s) = wideS p := rfl
  have hod : oddS (stkP p k s) = oddS p := by unfold oddS; rw [types_stk]
  have hb : beginsP (stkP p k s) = beginsP p := by unfold beginsP; rw [hm.1, hm.2]
  rw [hl, hc, hp, hb, hwi, hod, hf, if_neg (by simp : ¬ ((0 : Int) ≠ 0))]
  rw [hf0, if_neg (by simp : ¬ ((0 : Int) ≠ 0))] at h
  exact h
end Go.Proofs.YtkphijabhoppnaaDoor
