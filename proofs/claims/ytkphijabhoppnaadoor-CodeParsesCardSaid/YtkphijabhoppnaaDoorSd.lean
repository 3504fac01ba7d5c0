/- The reference's line and Parse as functions, and that they are the same. -/
import Derived.Test.YtkphijabhoppnaaDoorPCodeParsesx0
import Derived.Test.YtkphijabhoppnaaDoorPCodeParsesx3
import Derived.Test.YtkphijabhoppnaaDoorPCodeParsesx4
import Derived.Test.YtkphijabhoppnaaDoorPCodeParsesx5
import Derived.Test.YtkphijabhoppnaaDoorSc
namespace Go.Proofs.YtkphijabhoppnaaDoor.PCodeParses
open Go.RowKit Go.Proofs.YtkphijabhoppnaaDoorW.PrintWords Go.Proofs.YtkphijabhoppnaaDoorW.PrintLast Go.Proofs.YtkphijabhoppnaaDoorW.PrintMore
attribute [local go_sem] max2_int min2_int max_two min_two max_three min_three max_four min_four   -- for this text's walks alone
set_option linter.unusedVariables false
set_option linter.unusedSimpArgs false

/-! ### brazierref13_line: function 66 -/
def brazierref13_line.j0 : Nat → List ByteArray → Bool → Int → Int → Int → Int → Int → Option (List Int × Bool)
  | 0, _, _, _, _, _, _, _ => none
  | k + 1, x0, x5, x6, x192000, x192001, x192002, x192003 => if x6 > 1 then (if 2 < (x0.length : Int) then ((brazierref13_number.f k (rdOf ByteArray.empty x0 2)).bind fun bt196 => ((brazierref13_Write.f k x192000 x192001 bt196.1 x192003).bind fun bt198 => (if x5 = true then (if bt196.2 = true then (some (bt198.1, (bt198.2 == 0))) else (some (bt198.1, false))) else (some (bt198.1, false))))) else (none)) else ((brazierref13_Write.f k x192000 x192001 x192002 x192003).bind fun bt202 => (if x5 = true then (some (bt202.1, (bt202.2 == 0))) else (some (bt202.1, false))))
def brazierref13_line.f (k : Nat) (l0 : List ByteArray) : Option (List Int × Bool) := if 0 < (l0.length : Int) then ((brazierref13_Kind.f k (rdOf ByteArray.empty l0 0)).bind fun bt188 => (if bt188.2 = true then ((brazierref13_Operands.f k bt188.1).bind fun t190 => (if (l0.length : Int) = (wrap64 (1 + (t190.size : Int))) then (if (t190.size : Int) > 0 then (if 1 < (l0.length : Int) then ((brazierref13_number.f k (rdOf ByteArray.empty l0 1)).bind fun bt193 => (brazierref13_line.j0 k l0 bt193.2 (t190.size : Int) bt188.1 bt193.1 0 0)) else (none)) else (brazierref13_line.j0 k l0 bt188.2 (t190.size : Int) bt188.1 0 0 0)) else (some (([] : List Int), false)))) else (some (([] : List Int), false)))) else (none)
theorem brazierref13_line.mono_l : ∀ k, (∀ y0 y1 y2 y3 y4 y5 y6, LeO (brazierref13_line.j0 k y0 y1 y2 y3 y4 y5 y6) (brazierref13_line.j0 (k + 1) y0 y1 y2 y3 y4 y5 y6))
  | 0 => fun _ _ _ _ _ _ _ r h => by simp [brazierref13_line.j0] at h
  | k + 1 => by
    have ih0 := brazierref13_line.mono_l k
    · intro y0 y1 y2 y3 y4 y5 y6
      unfold brazierref13_line.j0
      repeat' first
      | (with_reducible exact ih0 _ _ _ _ _ _ _)
      | (with_reducible exact brazierref13_Kind.mono _ _)
      | (with_reducible exact brazierref13_Operands.mono _ _)
      | (with_reducible exact brazierref13_Write.mono _ _ _ _ _)
      | (with_reducible exact brazierref13_number.mono _ _)
      | (with_reducible exact LeO.refl _)
      | (with_reducible exact LeO.none _)
      | (with_reducible refine LeO.ite ?_ ?_)
      | (with_reducible refine LeO.bind ?_ (fun _ => ?_))
      | exact ih0 _ _ _ _ _ _ _
      | exact brazierref13_Kind.mono _ _
      | exact brazierref13_Operands.mono _ _
      | exact brazierref13_Write.mono _ _ _ _ _
      | exact brazierref13_number.mono _ _
      | exact LeO.none _
      | refine LeO.ite ?_ ?_
      | refine LeO.bind ?_ (fun _ => ?_)
theorem brazierref13_line.mono : ∀ a0 k, LeO (brazierref13_line.f k a0) (brazierref13_line.f (k + 1) a0) := by
  intro a0 k
  have ih0 := brazierref13_line.mono_l k
  unfold brazierref13_line.f
  repeat' first
      | (with_reducible exact ih0 _ _ _ _ _ _ _)
      | (with_reducible exact brazierref13_Kind.mono _ _)
      | (with_reducible exact brazierref13_Operands.mono _ _)
      | (with_reducible exact brazierref13_Write.mono _ _ _ _ _)
      | (with_reducible exact brazierref13_number.mono _ _)
      | (with_reducible exact LeO.refl _)
      | (with_reducible exact LeO.none _)
      | (with_reducible refine LeO.ite ?_ ?_)
      | (with_reducible refine LeO.bind ?_ (fun _ => ?_))
      | exact ih0 _ _ _ _ _ _ _
      | exact brazierref13_Kind.mono _ _
      | exact brazierref13_Operands.mono _ _
      | exact brazierref13_Write.mono _ _ _ _ _
      | exact brazierref13_number.mono _ _
      | exact LeO.none _
      | refine LeO.ite ?_ ?_
      | refine LeO.bind ?_ (fun _ => ?_)
/-! ### brazierref13_Parse: function 38 -/
mutual
def brazierref13_Parse.l0 : Nat → ByteArray → List Int → Int → Int → Int → Option (List Int × Int × Int)
  | 0, _, _, _, _, _ => none
  | k + 1, x0, x5, x6, x7, x8 => if x8 ≤ (x0.size : Int) then (if x8 < (x0.size : Int) then (if 0 ≤ x8 then (brazierref13_Parse.j1 k x0 x5 x6 x7 x8 ((bt x0 x8) != 10)) else (none)) else (brazierref13_Parse.j1 k x0 x5 x6 x7 x8 false)) else (some (x5, 0, 0))
def brazierref13_Parse.j1 : Nat → ByteArray → List Int → Int → Int → Int → Bool → Option (List Int × Int × Int)
  | 0, _, _, _, _, _, _ => none
  | k + 1, x0, x5, x6, x7, x8, x27 => if x27 = true then (brazierref13_Parse.l0 k x0 x5 x6 x7 (wrap64 (x8 + 1))) else (if 0 ≤ x6 then (if x6 ≤ x8 then (if x8 ≤ (x0.size : Int) then ((brazierref13_words.f k (x0.extract (x6 : Int).toNat (x8 : Int).toNat)).bind fun t206 => (if (t206.length : Int) = 0 then (brazierref13_Parse.l0 k x0 x5 (wrap64 (x8 + 1)) (wrap64 (x7 + 1)) (wrap64 (x8 + 1))) else ((brazierref13_line.f k t206).bind fun bt209 => (if bt209.2 = true then (if x5.length + bt209.1.length < 140737488355328 then (brazierref13_Parse.l0 k x0 (x5 ++ bt209.1) (wrap64 (x8 + 1)) (wrap64 (x7 + 1)) (wrap64 (x8 + 1))) else (none)) else (some (([] : List Int), wrap64 (x7 + 1), 5)))))) else (none)) else (none)) else (none))
end
def brazierref13_Parse.f (k : Nat) (a0 : ByteArray) : Option (List Int × Int × Int) := brazierref13_Parse.l0 k a0 ([] : List Int) 0 0 0
theorem brazierref13_Parse.mono_l : ∀ k, (∀ y0 y1 y2 y3 y4, LeO (brazierref13_Parse.l0 k y0 y1 y2 y3 y4) (brazierref13_Parse.l0 (k + 1) y0 y1 y2 y3 y4)) ∧ (∀ y0 y1 y2 y3 y4 y5, LeO (brazierref13_Parse.j1 k y0 y1 y2 y3 y4 y5) (brazierref13_Parse.j1 (k + 1) y0 y1 y2 y3 y4 y5))
  | 0 => ⟨fun _ _ _ _ _ r h => by simp [brazierref13_Parse.l0] at h, fun _ _ _ _ _ _ r h => by simp [brazierref13_Parse.j1] at h⟩
  | k + 1 => by
    obtain ⟨ih0, ih1⟩ := brazierref13_Parse.mono_l k
    refine ⟨?_, ?_⟩
    · intro y0 y1 y2 y3 y4
      unfold brazierref13_Parse.l0
      repeat' first
      | (with_reducible exact ih0 _ _ _ _ _)
      | (with_reducible exact ih1 _ _ _ _ _ _)
      | (with_reducible exact brazierref13_line.mono _ _)
      | (with_reducible exact brazierref13_words.mono _ _)
      | (with_reducible exact LeO.refl _)
      | (with_reducible exact LeO.none _)
      | (with_reducible refine LeO.ite ?_ ?_)
      | (with_reducible refine LeO.bind ?_ (fun _ => ?_))
      | exact ih0 _ _ _ _ _
      | exact ih1 _ _ _ _ _ _
      | exact brazierref13_line.mono _ _
      | exact brazierref13_words.mono _ _
      | exact LeO.none _
      | refine LeO.ite ?_ ?_
      | refine LeO.bind ?_ (fun _ => ?_)
    · intro y0 y1 y2 y3 y4 y5
      unfold brazierref13_Parse.j1
      repeat' first
      | (with_reducible exact ih0 _ _ _ _ _)
      | (with_reducible exact ih1 _ _ _ _ _ _)
      | (with_reducible exact brazierref13_line.mono _ _)
      | (with_reducible exact brazierref13_words.mono _ _)
      | (with_reducible exact LeO.refl _)
      | (with_reducible exact LeO.none _)
      | (with_reducible refine LeO.ite ?_ ?_)
      | (with_reducible refine LeO.bind ?_ (fun _ => ?_))
      | exact ih0 _ _ _ _ _
      | exact ih1 _ _ _ _ _ _
      | exact brazierref13_line.mono _ _
      | exact brazierref13_words.mono _ _
      | exact LeO.none _
      | refine LeO.ite ?_ ?_
      | refine LeO.bind ?_ (fun _ => ?_)
theorem brazierref13_Parse.mono : ∀ a0 k, LeO (brazierref13_Parse.f k a0) (brazierref13_Parse.f (k + 1) a0) := by
  intro a0 k
  obtain ⟨ih0, ih1⟩ := brazierref13_Parse.mono_l k
  unfold brazierref13_Parse.f
  repeat' first
      | (with_reducible exact ih0 _ _ _ _ _)
      | (with_reducible exact ih1 _ _ _ _ _ _)
      | (with_reducible exact brazierref13_line.mono _ _)
      | (with_reducible exact brazierref13_words.mono _ _)
      | (with_reducible exact LeO.refl _)
      | (with_reducible exact LeO.none _)
      | (with_reducible refine LeO.ite ?_ ?_)
      | (with_reducible refine LeO.bind ?_ (fun _ => ?_))
      | exact ih0 _ _ _ _ _
      | exact ih1 _ _ _ _ _ _
      | exact brazierref13_line.mono _ _
      | exact brazierref13_words.mono _ _
      | exact LeO.none _
      | refine LeO.ite ?_ ?_
      | refine LeO.bind ?_ (fun _ => ?_)

end Go.Proofs.YtkphijabhoppnaaDoor.PCodeParses
namespace Go.Proofs.YtkphijabhoppnaaDoor
open Go.RowKit Go.Proofs.YtkphijabhoppnaaDoorW.PrintWords Go.Proofs.YtkphijabhoppnaaDoor.PCodeParses
set_option linter.unusedSimpArgs false
set_option linter.unusedVariables false

theorem ref_kindK (s : ByteArray) (k : Nat) (hk : 42 ≤ k) : brazierref13_Kind.f k s = some (kindS s.data.toList) :=
  ref_kind_fromP s 41 0 k (by omega) (by omega) (by omega) (by intro c hc; omega)
theorem ref_writeK (k : Nat) (hk : 4 ≤ k) (c a b s : Int) : brazierref13_Write.f k c a b s = some (writeS c a b) := by
  obtain ⟨m, rfl⟩ : ∃ m, k = m + 4 := ⟨k - 4, by omega⟩
  exact ref_writeP m c a b s
theorem ref_opsK (k : Nat) (hk : 2 ≤ k) (c : Int) : brazierref13_Operands.f k c = some (opB (opk c)) := by
  obtain ⟨m, rfl⟩ : ∃ m, k = m + 2 := ⟨k - 2, by omega⟩
  exact w_operandsP m c
theorem opB_size (n : Nat) : (opB n).size = (ksK n).length := by
  rcases n with _ | _ | _ | _ | _ | n <;> rfl
/-- What line has, of what Write has. -/
def LineOK (r : Option (List Int × Bool)) (o : Option (List Int)) : Prop := ∃ bs, r = some (bs, o.isSome) ∧ ∀ x, o = some x → bs = x
theorem lineOK_w (c a b : Int) : LineOK (some ((writeS c a b).1, ((writeS c a b).2 == 0))) (if (writeS c a b).2 = 0 then some (writeS c a b).1 else none) := by
  by_cases h : (writeS c a b).2 = 0
  · rw [if_pos h, h]
    exact ⟨_, rfl, fun x e => Option.some.inj e⟩
  · rw [if_neg h]
    have : ((writeS c a b).2 == 0) = false := by simpa using h
    rw [this]
    exact ⟨_, rfl, fun x e => by cases e⟩
theorem lineOK_n (bs : List Int) : LineOK (some (bs, false)) none := ⟨_, rfl, fun x e => by cases e⟩

theorem ref_j0 (k : Nat) (hk : 20 ≤ k) (l : List ByteArray) (ok : Bool) (m : Nat) (hm : m ≤ l.length) (hm1 : m + 1 = l.length) (c a : Int) :
    LineOK (brazierref13_line.j0 k l ok m c a 0 0) (if ok = true then (if m ≤ 1 then (if (writeS c a 0).2 = 0 then some (writeS c a 0).1 else none) else match numP (rdOf ByteArray.empty l 2).data.toList with | some y => (if (writeS c a y).2 = 0 then some (writeS c a y).1 else none) | none => none) else none) := by
  obtain ⟨k, rfl⟩ : ∃ q, k = q + 1 := ⟨k - 1, by omega⟩
  rw [brazierref13_line.j0]
  by_cases h1 : m ≤ 1
  · rw [if_neg (by omega), ref_writeK k (by omega), Option.bind_some]
    cases ok with
    | true => rw [if_pos rfl, if_pos rfl, if_pos h1]; exact lineOK_w _ _ _
    | false => rw [if_neg (by simp), if_neg (by simp)]; exact lineOK_n _
  · rw [if_pos (by omega), if_pos (by omega), ref_number _ k (by omega), Option.bind_some, ref_writeK k (by omega), Option.bind_some]
    cases ok with
    | false => rw [if_neg (by simp), if_neg (by simp)]; exact lineOK_n _
    | true =>
      rw [if_pos rfl, if_pos rfl, if_neg h1]
      cases numP (rdOf ByteArray.empty l 2).data.toList with
      | none => exact lineOK_n _
      | some y => exact lineOK_w _ _ _
theorem ref_lineP (l : List ByteArray) (hne : l ≠ []) (hl : l.length ≤ 1000000) (k : Nat) (hk : 60 ≤ k) : LineOK (brazierref13_line.f k l) (lineS (l.map fun y => y.data.toList)) := by
  cases l with
  | nil => exact absurd rfl hne
  | cons f r =>
    unfold brazierref13_line.f
    have hf0 : rdOf ByteArray.empty (f :: r) 0 = f := rfl
    rw [if_pos (by simp), hf0, ref_kindK _ k (by omega), Option.bind_some, List.map_cons, lineS]
    cases hc : kindTo f.data.toList 41 with
    | none =>
      have hkS : kindS f.data.toList = (0, false) := by unfold kindS; rw [hc]
      rw [hkS, if_neg (by simp)]
      exact lineOK_n _
    | some c =>
      have hkS : kindS f.data.toList = ((c : Int), true) := by unfold kindS; rw [hc]
      rw [hkS, if_pos rfl]
      dsimp only
      rw [ref_opsK k (by omega), Option.bind_some, opB_size]
      have hks : (ksK (opk c)).length ≤ 2 := by rcases opk_le c with h | h | h | h | h <;> rw [h] <;> decide
      have hw : wrap64 (1 + ((ksK (opk c)).length : Int)) = (((ksK (opk c)).length + 1 : Nat) : Int) := by rw [w64 _ (by omega)]; omega
      rw [hw]
      by_cases hm : (f :: r).length = (ksK (opk c)).length + 1
      · rw [if_pos (by omega)]
        rw [List.length_cons] at hm
        have key : ∀ ok a, LineOK (brazierref13_line.j0 k (f :: r) ok ((ksK (opk c)).length : Nat) c a 0 0) _ := fun ok a => ref_j0 k (by omega) (f :: r) ok (ksK (opk c)).length (by rw [List.length_cons]; omega) (by rw [List.length_cons]; omega) c a
        have hz : ∀ x, numO x = ((numO x).1, (numO x).2) := fun x => rfl
        rcases opk_le c with h | h | h | h | h
        · rw [h] at hm key ⊢
          obtain rfl : r = [] := List.length_eq_zero_iff.1 (by simpa [ksK] using hm)
          rw [if_neg (by decide)]
          have e : argsS c ([].map fun y : ByteArray => y.data.toList) = if (writeS c 0 0).2 = 0 then some (writeS c 0 0).1 else none := by
            show argsS c [] = _
            rw [argsS, if_pos h]
          rw [e]
          exact key true 0
        all_goals
          rw [h] at hm key ⊢
        · obtain ⟨a, rfl⟩ : ∃ a, r = [a] := by
            match r, hm with
            | [a], _ => exact ⟨a, rfl⟩
          rw [if_pos (by decide), if_pos (by simp), ref_number _ k (by omega), Option.bind_some]
          have e : argsS c ([a].map fun y : ByteArray => y.data.toList) = match numP a.data.toList with | some x => (if (writeS c x 0).2 = 0 then some (writeS c x 0).1 else none) | none => none := by
            show argsS c [a.data.toList] = _
            rw [argsS, if_pos (by simp [h])]
            cases numP a.data.toList <;> rfl
          rw [e]
          have kk := key (numO (numP a.data.toList)).2 (numO (numP a.data.toList)).1
          have r1 : rdOf ByteArray.empty [f, a] 1 = a := rfl
          rw [r1]
          cases ha : numP a.data.toList with
          | none => rw [ha] at kk; exact kk
          | some x => rw [ha] at kk; exact kk
        · obtain ⟨a, rfl⟩ : ∃ a, r = [a] := by
            match r, hm with
            | [a], _ => exact ⟨a, rfl⟩
          rw [if_pos (by decide), if_pos (by simp), ref_number _ k (by omega), Option.bind_some]
          have e : argsS c ([a].map fun y : ByteArray => y.data.toList) = match numP a.data.toList with | some x => (if (writeS c x 0).2 = 0 then some (writeS c x 0).1 else none) | none => none := by
            show argsS c [a.data.toList] = _
            rw [argsS, if_pos (by simp [h])]
            cases numP a.data.toList <;> rfl
          rw [e]
          have kk := key (numO (numP a.data.toList)).2 (numO (numP a.data.toList)).1
          have r1 : rdOf ByteArray.empty [f, a] 1 = a := rfl
          rw [r1]
          cases ha : numP a.data.toList with
          | none => rw [ha] at kk; exact kk
          | some x => rw [ha] at kk; exact kk
        · obtain ⟨a, rfl⟩ : ∃ a, r = [a] := by
            match r, hm with
            | [a], _ => exact ⟨a, rfl⟩
          rw [if_pos (by decide), if_pos (by simp), ref_number _ k (by omega), Option.bind_some]
          have e : argsS c ([a].map fun y : ByteArray => y.data.toList) = match numP a.data.toList with | some x => (if (writeS c x 0).2 = 0 then some (writeS c x 0).1 else none) | none => none := by
            show argsS c [a.data.toList] = _
            rw [argsS, if_pos (by simp [h])]
            cases numP a.data.toList <;> rfl
          rw [e]
          have kk := key (numO (numP a.data.toList)).2 (numO (numP a.data.toList)).1
          have r1 : rdOf ByteArray.empty [f, a] 1 = a := rfl
          rw [r1]
          cases ha : numP a.data.toList with
          | none => rw [ha] at kk; exact kk
          | some x => rw [ha] at kk; exact kk
        · obtain ⟨a, b, rfl⟩ : ∃ a b, r = [a, b] := by
            match r, hm with
            | [a, b], _ => exact ⟨a, b, rfl⟩
          rw [if_pos (by decide), if_pos (by simp), ref_number _ k (by omega), Option.bind_some]
          have e : argsS c ([a, b].map fun y : ByteArray => y.data.toList) = match numP a.data.toList, numP b.data.toList with | some x, some y => (if (writeS c x y).2 = 0 then some (writeS c x y).1 else none) | _, _ => none := by
            show argsS c [a.data.toList, b.data.toList] = _
            rw [argsS, if_pos h]
            cases numP a.data.toList <;> cases numP b.data.toList <;> rfl
          rw [e]
          have kk := key (numO (numP a.data.toList)).2 (numO (numP a.data.toList)).1
          have r2 : rdOf ByteArray.empty [f, a, b] 2 = b := rfl
          have r1 : rdOf ByteArray.empty [f, a, b] 1 = a := rfl
          rw [r1]
          rw [r2] at kk
          cases ha : numP a.data.toList with
          | none => rw [ha] at kk; exact kk
          | some x =>
            rw [ha] at kk
            cases hb : numP b.data.toList with
            | none => rw [hb] at kk; exact kk
            | some y => rw [hb] at kk; exact kk
      · rw [if_neg (by omega)]
        have e : argsS c (r.map fun y : ByteArray => y.data.toList) = none := by
          rw [List.length_cons] at hm
          rcases r with _ | ⟨a, _ | ⟨b, _ | ⟨d, t⟩⟩⟩
          · show argsS c [] = none
            rw [argsS, if_neg]
            intro h
            rw [h] at hm
            exact hm rfl
          · show argsS c [a.data.toList] = none
            rw [argsS, if_neg]
            intro h
            rcases h with h | h | h <;> (rw [h] at hm; exact hm rfl)
          · show argsS c [a.data.toList, b.data.toList] = none
            rw [argsS, if_neg]
            intro h
            rw [h] at hm
            exact hm rfl
          · rfl
        rw [e]
        exact lineOK_n _
end Go.Proofs.YtkphijabhoppnaaDoor
namespace Go.Proofs.YtkphijabhoppnaaDoor
open Go.RowKit Go.Proofs.YtkphijabhoppnaaDoorW.PrintWords Go.Proofs.YtkphijabhoppnaaDoor.PCodeParses
set_option linter.unusedSimpArgs false
set_option linter.unusedVariables false

theorem ref_parse_line (s : ByteArray) (hs : s.size ≤ 100000) (k b i n : Nat) (out : List Int) (rest : List ByteArray) (hbi : b ≤ i) (hi : i ≤ s.size) (hn : n ≤ i) (ho : out.length ≤ 3 * n) (hk : 2 * s.size + 70 ≤ k)
    (cont : ∀ out' : List Int, out'.length ≤ 3 * (n + 1) → brazierref13_Parse.l0 k s out' ((i + 1 : Nat) : Int) ((n + 1 : Nat) : Int) ((i + 1 : Nat) : Int) = some (parseL rest (n + 1) out')) :
    brazierref13_Parse.j1 (k + 1) s out b n i false = some (parseL (s.extract b i :: rest) n out) := by
  have hw : wrap64 ((i : Int) + 1) = ((i + 1 : Nat) : Int) := w64 _ (by omega)
  have hw2 : wrap64 ((n : Int) + 1) = ((n + 1 : Nat) : Int) := w64 _ (by omega)
  have hx : (s.extract (b : Int).toNat (i : Int).toNat).size ≤ s.size := by
    rw [Int.toNat_natCast, Int.toNat_natCast]
    have : (s.extract b i).size = min i s.size - b := by simp
    omega
  rw [brazierref13_Parse.j1, if_neg (by simp), if_pos (by omega), if_pos (by omega), if_pos (by omega), ref_words _ (by omega) k (by omega), Option.bind_some, hw, hw2]
  have hfl := fieldsB_len (s.extract (b : Int).toNat (i : Int).toNat)
  rw [Int.toNat_natCast, Int.toNat_natCast] at *
  rw [parseL]
  have hlo : lineO (s.extract b i) = if fieldsB (s.extract b i) = [] then some [] else lineS ((fieldsB (s.extract b i)).map fun y => y.data.toList) := rfl
  by_cases hf : fieldsB (s.extract b i) = []
  · rw [if_pos hf] at hlo
    rw [hf, if_pos (by rfl), hlo]
    dsimp only
    rw [List.append_nil]
    exact cont out (by omega)
  · rw [if_neg hf] at hlo
    have hp : 0 < (fieldsB (s.extract b i)).length := List.length_pos_iff.2 hf
    obtain ⟨bs, h1, h2⟩ := ref_lineP (fieldsB (s.extract b i)) hf (by omega) k (by omega)
    rw [← hlo] at h1 h2
    rw [if_neg (by omega), h1, Option.bind_some]
    cases hx : lineO (s.extract b i) with
    | none =>
      dsimp only
      rw [if_neg (by simp)]
    | some x =>
      obtain rfl := h2 x hx
      have h3 := lineO_len _ _ hx
      dsimp only
      rw [if_pos (by rfl), if_pos (by omega)]
      exact cont (out ++ bs) (by rw [List.length_append]; omega)
theorem ref_parse_from (s : ByteArray) (hs : s.size ≤ 100000) : ∀ (d b i k n : Nat) (out : List Int), b ≤ i → i + d = s.size → n ≤ i → out.length ≤ 3 * n → 2 * d + 2 * s.size + 80 ≤ k →
    brazierref13_Parse.l0 k s out b n i = some (parseL (linesI s b d i) n out)
  | 0, b, i, k, n, out, hb, hd, hn, ho, hk => by
    obtain ⟨k, rfl⟩ : ∃ m, k = m + 2 := ⟨k - 2, by omega⟩
    rw [brazierref13_Parse.l0, if_pos (by omega), if_neg (by omega), linesI]
    refine ref_parse_line s hs k b i n out [] hb (by omega) hn ho (by omega) ?_
    intro out' _
    obtain ⟨k, rfl⟩ : ∃ m, k = m + 1 := ⟨k - 1, by omega⟩
    rw [brazierref13_Parse.l0, if_neg (by omega)]
    rfl
  | d + 1, b, i, k, n, out, hb, hd, hn, ho, hk => by
    obtain ⟨k, rfl⟩ : ∃ m, k = m + 2 := ⟨k - 2, by omega⟩
    have hi : i < s.size := by omega
    have hw : wrap64 ((i : Int) + 1) = ((i + 1 : Nat) : Int) := w64 _ (by omega)
    rw [brazierref13_Parse.l0, if_pos (by omega), if_pos (by omega), if_pos (by omega), linesI]
    by_cases hc : (s.get! i).toNat = 10
    · rw [if_pos hc]
      have e : (bt s (i : Int) != 10) = false := by
        have := bt_sp s i hi 10 10 rfl
        cases hh : (bt s (i : Int) != 10) with
        | false => rfl
        | true => exact absurd hc (this.1 hh)
      rw [e]
      refine ref_parse_line s hs k b i n out _ hb (by omega) hn ho (by omega) ?_
      intro out' ho'
      exact ref_parse_from s hs d (i + 1) (i + 1) k (n + 1) out' (Nat.le_refl _) (by omega) (by omega) ho' (by omega)
    · rw [if_neg hc, (bt_sp s i hi 10 10 rfl).2 hc, brazierref13_Parse.j1, if_pos rfl, hw]
      exact ref_parse_from s hs d b (i + 1) k n out (by omega) (by omega) (by omega) ho (by omega)
theorem ref_parse (s : ByteArray) (hs : s.size ≤ 100000) (k : Nat) (hk : 4 * s.size + 80 ≤ k) : brazierref13_Parse.f k s = some (parseS s) := by
  have := ref_parse_from s hs s.size 0 0 k 0 [] (by omega) (by omega) (by omega) (by simp) (by omega)
  rw [linesI_all] at this
  exact this
end Go.Proofs.YtkphijabhoppnaaDoor
