/- Texts of instructions and their lines, plain data: the text of right instructions reads as them. -/
import Derived.Test.YtkphijabhoppnaaGreatDoorAMd
import Derived.Test.YtkphijabhoppnaaGreatDoorAMe
namespace Go.Proofs.YtkphijabhoppnaaGreatDoor
open Go.Lib
set_option linter.unusedSimpArgs false
set_option linter.unusedVariables false
def plB (c : UInt8) : Prop := c ≠ 10 ∧ c ≠ 59 ∧ c ≠ 9 ∧ c ≠ 32
instance (c : UInt8) : Decidable (plB c) := by unfold plB; infer_instance
theorem dig_pl : ∀ c : UInt8, isDig c → plB c := by
  intro c h
  unfold isDig at h
  unfold plB
  refine ⟨?_, ?_, ?_, ?_⟩ <;> (rintro rfl; revert h; decide)
theorem itoa_pl (v : Int) : (∀ c ∈ itoa v, plB c) ∧ itoa v ≠ [] := by
  have hd : ∀ n, ∀ c ∈ decDigits n, plB c := fun n c h => dig_pl c (dec_digs n c h)
  unfold itoa
  split
  · refine ⟨?_, by simp⟩
    intro c h
    rcases List.mem_cons.1 h with rfl | h
    · decide
    · exact hd _ c h
  · exact ⟨hd _, decDigits_ne _⟩
theorem rg_pl : ∀ n : Nat, n < 33 → (∀ c ∈ rgT n, plB c) ∧ rgT n ≠ [] := by decide +kernel
theorem part_pl {i : IR} (h : okI i) (c : UInt8) : (∀ x ∈ partS i c, plB x) ∧ partS i c ≠ [] := by
  obtain ⟨hd, hn, hm, ha, hc, hi⟩ := okI_regs h
  unfold partS
  repeat' split
  · exact rg_pl _ (dW_facts h).2.2
  · exact rg_pl _ (nW_facts h).2.2
  · exact rg_pl _ (by omega)
  · exact rg_pl _ (by omega)
  · refine ⟨?_, by simp⟩
    intro x hx
    rcases List.mem_cons.1 hx with rfl | hx
    · decide
    · exact (itoa_pl _).1 x hx
  · exact itoa_pl _
  · exact itoa_pl _
theorem nm_pl : ∀ a : Nat, a < 43 → (∀ c ∈ nmT.getD a [], plB c) := by decide +kernel
theorem join_mem (xs : List (List UInt8)) : ∀ x ∈ join xs sep2, x = 44 ∨ x = 32 ∨ ∃ p ∈ xs, x ∈ p := by
  induction xs with
  | nil => intro x hx; rw [join_nil] at hx; cases hx
  | cons p r ih =>
    intro x hx
    cases r with
    | nil => rw [join_one] at hx; exact .inr (.inr ⟨p, by simp, hx⟩)
    | cons q r =>
      rw [join_two] at hx
      rcases List.mem_append.1 hx with hx | hx
      · exact .inr (.inr ⟨p, by simp, hx⟩)
      · rcases List.mem_append.1 hx with hx | hx
        · simp only [sep2, List.mem_cons, List.not_mem_nil, or_false] at hx
          rcases hx with rfl | rfl
          · exact .inl rfl
          · exact .inr (.inl rfl)
        · rcases ih x hx with h | h | ⟨p', hp, h⟩
          · exact .inl h
          · exact .inr (.inl h)
          · exact .inr (.inr ⟨p', List.mem_cons_of_mem _ hp, h⟩)
theorem join_last : ∀ (xs : List (List UInt8)), xs ≠ [] → ∃ pre p, p ∈ xs ∧ join xs sep2 = pre ++ p := by
  intro xs
  induction xs with
  | nil => intro h; exact absurd rfl h
  | cons p r ih =>
    intro _
    cases r with
    | nil => exact ⟨[], p, by simp, by rw [join_one]; rfl⟩
    | cons q r =>
      obtain ⟨pre, p', h1, h2⟩ := ih (by simp)
      exact ⟨p ++ (sep2 ++ pre), p', List.mem_cons_of_mem _ h1, by rw [join_two, h2]; simp⟩
theorem ends_pl {l : List UInt8} (h : ∀ c ∈ l, plB c) (hn : l ≠ []) : ∃ r c, l = r ++ [c] ∧ plB c :=
  ⟨l.dropLast, l.getLast hn, (List.dropLast_concat_getLast hn).symm, h _ (List.getLast_mem hn)⟩
theorem insB_shape {i : IR} (h : okI i) : (∀ c ∈ insB i, c ≠ 10 ∧ c ≠ 59) ∧ (∃ c r, insB i = c :: r ∧ plB c) ∧ (∃ r c, insB i = r ++ [c] ∧ plB c) := by
  have hop := h.1
  have hn : nm5 i.op ≠ [] := (nm_facts i.op.toNat (by omega)).1
  have hp : ∀ c ∈ nm5 i.op, plB c := nm_pl i.op.toNat (by omega)
  have hr : ∀ c ∈ restS i, c ≠ 10 ∧ c ≠ 59 := by
    intro c hc
    rcases join_mem _ c hc with rfl | rfl | ⟨p, hp, hc⟩
    · decide
    · decide
    · obtain ⟨x, -, rfl⟩ := List.mem_map.1 hp
      have := (part_pl h x).1 c hc
      exact ⟨this.1, this.2.1⟩
  refine ⟨?_, ?_, ?_⟩
  · intro c hc
    rcases List.mem_append.1 hc with hc | hc
    · exact ⟨(hp c hc).1, (hp c hc).2.1⟩
    · split at hc
      · cases hc
      · rcases List.mem_cons.1 hc with rfl | hc
        · decide
        · exact hr c hc
  · cases hN : nm5 i.op with
    | nil => exact absurd hN hn
    | cons c r => exact ⟨c, _, by rw [insB, hN, List.cons_append], hp c (by rw [hN]; simp)⟩
  · by_cases hT : pT i.op = []
    · obtain ⟨r, c, h1, h2⟩ := ends_pl hp hn
      exact ⟨r, c, by rw [insB, if_pos hT, List.append_nil, h1], h2⟩
    · obtain ⟨pre, p, h1, h2⟩ := join_last ((pT i.op).map (partS i)) (by simpa using hT)
      obtain ⟨x, -, rfl⟩ := List.mem_map.1 h1
      obtain ⟨r, c, h3, h4⟩ := ends_pl (part_pl h x).1 (part_pl h x).2
      refine ⟨nm5 i.op ++ 32 :: (pre ++ r), c, ?_, h4⟩
      rw [insB, if_neg hT, restS, h2, h3]
      simp
theorem trimS_id {l : List UInt8} (h1 : ∃ c r, l = c :: r ∧ plB c) (h2 : ∃ r c, l = r ++ [c] ∧ plB c) : trimS l [32, 9] = l := by
  have hc : ∀ c, plB c → (([32, 9] : List UInt8).contains c) = false := by
    intro c h
    simp [h.2.2.1, h.2.2.2]
  obtain ⟨r, c, e, hp⟩ := h2
  have e1 : trimRightS l [32, 9] = l := by
    rw [trimRightS, e, List.reverse_append, List.reverse_singleton, List.singleton_append, List.dropWhile_cons, hc c hp]
    simp
  obtain ⟨c, r, e, hp⟩ := h1
  rw [trimS, e1, trimLeftS, e, List.dropWhile_cons, hc c hp]
  simp
theorem lineT_ins {i : IR} (h : okI i) : lineT (insB i) = insB i := by
  obtain ⟨h1, h2, h3⟩ := insB_shape h
  have hno : (59 : UInt8) ∉ insB i := fun hm => (h1 59 hm).2 rfl
  have hi : index (insB i) [59] = -1 := index_nowhere _ 59 [] hno
  rw [lineT, cut, hi, if_neg (by decide)]
  exact trimS_id h2 h3
theorem lineT_nil : lineT [] = [] := by decide +kernel
theorem splN_line : ∀ (a b : List UInt8), (10 : UInt8) ∉ a → splN (a ++ 10 :: b) = a :: splN b := by
  intro a
  induction a with
  | nil => intro b _; rw [List.nil_append, splN, if_pos rfl]
  | cons c r ih =>
    intro b h
    have hc : c ≠ 10 := fun e => h (by rw [e]; simp)
    rw [List.cons_append, splN, if_neg hc, ih b (fun hm => h (List.mem_cons_of_mem _ hm))]
theorem splN_textP : ∀ l : List IR, splN (textP l) = (l.filter fun i => decide (okI i)).map insB ++ [[]] := by
  intro l
  induction l with
  | nil => rfl
  | cons i l ih =>
    rw [textP, List.flatMap_cons, ← textP]
    by_cases h : okI i
    · have hno : (10 : UInt8) ∉ insB i := fun hm => ((insB_shape h).1 10 hm).1 rfl
      rw [lineP, insS, if_pos h, if_neg (insB_ne i h), List.append_assoc, List.singleton_append, splN_line _ _ hno, ih, List.filter_cons, if_pos (by simpa using h)]
      rfl
    · rw [lineP, insS, if_neg h, if_pos rfl, List.nil_append, ih, List.filter_cons, if_neg (by simpa using h)]
theorem prgL_ins : ∀ (r : List IR) (n : Nat) (out : List IR), (∀ i ∈ r, okI i) → prgL (outsL n ((r.map insB ++ [[]]).map strB)) out = (out ++ r, 0, 0) := by
  intro r
  induction r with
  | nil =>
    intro n out _
    have : lineT (strB []).data.toList = [] := lineT_nil
    rw [List.map_nil, List.nil_append, List.map_cons, List.map_nil, outsL, if_pos this, outsL, List.append_nil, prgL, List.append_nil]
  | cons i r ih =>
    intro n out h
    have hk := h i (by simp)
    have e : lineT (strB (insB i)).data.toList = insB i := lineT_ins hk
    have hp : parO (insB i) = some i := parO_some.2 ⟨hk, rfl⟩
    rw [List.map_cons, List.cons_append, List.map_cons, outsL, e, if_neg (insB_ne i hk), List.singleton_append, prgL]
    simp only [hp]
    rw [ih (n + 1) (out ++ [i]) (fun j hj => h j (List.mem_cons_of_mem _ hj))]
    simp
theorem progS_textP (l : List IR) : progS ⟨(textP l).toArray⟩ = (l.filter fun i => decide (okI i), 0, 0) := by
  have e : linesB ⟨(textP l).toArray⟩ = ((l.filter fun i => decide (okI i)).map insB ++ [[]]).map strB := by
    rw [linesB, ← splN_textP]
  rw [progS, e, prgL_ins _ _ _ (fun i hi => by simpa using (List.mem_filter.1 hi).2), List.nil_append]
end Go.Proofs.YtkphijabhoppnaaGreatDoor
