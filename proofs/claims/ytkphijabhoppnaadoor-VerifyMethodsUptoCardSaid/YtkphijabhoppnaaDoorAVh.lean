/- The shape behind a bytecode, whichever it is. -/
import Derived.Test.YtkphijabhoppnaaDoorAVg
namespace Go.Proofs.YtkphijabhoppnaaDoor
open Go.RowKit Go.Proofs.YtkphijabhoppnaaDoorW.PrintWords
set_option linter.unusedSimpArgs false
set_option linter.unusedVariables false
def FewPar (p : Pg) : Prop := ∀ n, (methS p n).f0.length ≤ 100000
def OkLen (r : List Int × List Int) : Prop := r.1.length ≤ 100000 ∧ r.2.length ≤ 2
theorem okLen_ite {c : Prop} [Decidable c] {a b : List Int × List Int} (ha : OkLen a) (hb : OkLen b) : OkLen (if c then a else b) := by
  split
  · exact ha
  · exact hb
theorem moves_len (p : Pg) (m : Meth) (c a b : Int) (hp : FewPar p) : (movesS p m c a b).1.length ≤ 100000 ∧ (movesS p m c a b).2.length ≤ 2 := by
  have hv : ∀ t, (voidS t).length ≤ 1 := fun t => by unfold voidS; split <;> simp
  show OkLen (movesS p m c a b)
  unfold movesS
  repeat' (with_reducible refine okLen_ite ?_ ?_)
  all_goals first
    | exact ⟨hp a, Nat.le_trans (hv _) (by omega)⟩
    | exact ⟨Nat.le_trans (hv m.f1) (by omega), Nat.zero_le _⟩
    | exact ⟨by simp, by simp⟩
section
variable {w : World} {A0 A1 A2 B0 B2 B4 S0 : Option Addr} {c0 c1 c2 d0 d2 d4 sc : Nat} {p : Pg} {m : Meth}
theorem effect_calls (c a b o : Int) (s : Shp) (hc0 : 0 ≤ c) (hc1 : c ≤ 40) (hn : namedS p m c a b = true) (hp : PgC w A0 c0 A1 c1 A2 c2 p) (hm : MtC w B0 d0 B2 d2 B4 d4 m) (ha : I64 a) (hf : FewPar p)
    (h0 : 0 ≤ s.2) (h10 : s.2 ≤ 10) (hs : Kd.C (Kd.int .i64) w S0 s.1.length s.1) (hsc : s.1.length ≤ sc) (hl : s.1.length ≤ 100000) :
    Calls Tryd.prog 60 #[.agg #[.slice A0 p.pool.length c0, .slice A1 p.classes.length c1, .slice A2 p.methods.length c2], .agg #[.slice B0 m.f0.length d0, .int .i64 m.f1, .slice B2 m.f2.length d2, .int .i64 m.f3, .slice B4 m.f4.length d4], .agg #[.int .i64 c, .int .i64 a, .int .i64 b, .int .i64 o], .agg #[.slice S0 s.1.length sc, .int .i64 s.2]] w (EffPost w (effectS p m c a b s)) := by
  obtain ⟨s, h⟩ := s
  dsimp only at h0 h10 hs hsc hl ⊢
  by_cases h6 : c = 6 ∨ c = 7 ∨ c = 8
  · have e : effectS p m c a b (s, h) = match shuffleS c s with | none => (([], 0), 22) | some l => ((l, h), 0) := by
      unfold effectS; rw [if_pos h6]
      cases shuffleS c s <;> rfl
    rw [e]
    cases hn2 : shuffleS c s with
    | none => exact effect_no c a b o s h h6 hn2 hs hsc hl
    | some r => exact effect_sh c a b o s h h6 r hn2 hs hsc hl
  · obtain ⟨⟨t, u⟩, htu⟩ : ∃ q, movesS p m c a b = q := ⟨_, rfl⟩
    have hlen := moves_len p m c a b hf
    rw [htu] at hlen
    obtain ⟨htl, hul⟩ := hlen
    dsimp only at htl hul
    have hul : u.length ≤ 100000 := by omega
    have e : effectS p m c a b (s, h) = if s.length < t.length then (([], 0), 22) else if s.drop (s.length - t.length) = t then (if heldS c h ≠ h ∧ (10 < heldS c h ∨ heldS c h < 0) then (([], 0), 25) else ((s.take (s.length - t.length) ++ u, heldS c h), 0)) else (([], 0), 21) := by
      unfold effectS; rw [if_neg h6, htu]
    rw [e]
    have hh : ∀ x, c ≠ 36 → c ≠ 37 → heldS c x = x := fun x h1 h2 => by unfold heldS; rw [if_neg h1, if_neg h2]
    by_cases hfew : s.length < t.length
    · rw [if_pos hfew]
      by_cases hlo : c < 6
      · exact effect_lo_few c a b o s h ⟨hc0, hlo⟩ hn hp hm ha t u htu htl hul h0 h10 hfew hs hsc hl
      · by_cases h36 : c = 36
        · subst h36; exact effect_en_few a b o s h hn hp hm ha t u htu htl hul h0 h10 hfew hs hsc hl
        · by_cases h37 : c = 37
          · subst h37; exact effect_ex_few a b o s h hn hp hm ha t u htu htl hul h0 h10 hfew hs hsc hl
          · exact effect_hi_few c a b o s h ⟨by omega, hc1⟩ ⟨h36, h37⟩ hn hp hm ha t u htu htl hul h0 h10 hfew hs hsc hl
    · rw [if_neg hfew]
      have hle : t.length ≤ s.length := by omega
      by_cases heq : s.drop (s.length - t.length) = t
      · rw [if_pos heq]
        by_cases hlo : c < 6
        · rw [hh h (by omega) (by omega), if_neg (by simp)]
          exact effect_lo_ok c a b o s h ⟨hc0, hlo⟩ hn hp hm ha t u htu htl hul h0 h10 hle heq hs hsc hl
        · by_cases h36 : c = 36
          · subst h36
            rw [show heldS 36 h = h + 1 from rfl]
            by_cases hx : h < 10
            · rw [if_neg (by omega)]
              exact effect_en_ok a b o s h hn hp hm ha t u htu htl hul h0 h10 hle heq hx hs hsc hl
            · rw [if_pos (by omega)]
              exact effect_en_held a b o s h hn hp hm ha t u htu htl hul h0 h10 hle heq (by omega) hs hsc hl
          · by_cases h37 : c = 37
            · subst h37
              rw [show heldS 37 h = h - 1 from rfl]
              by_cases hx : 0 < h
              · rw [if_neg (by omega)]
                exact effect_ex_ok a b o s h hn hp hm ha t u htu htl hul h0 h10 hle heq hx hs hsc hl
              · rw [if_pos (by omega)]
                exact effect_ex_held a b o s h hn hp hm ha t u htu htl hul h0 h10 hle heq (by omega) hs hsc hl
            · rw [hh h h36 h37, if_neg (by simp)]
              exact effect_hi_ok c a b o s h ⟨by omega, hc1⟩ ⟨h36, h37⟩ hn hp hm ha t u htu htl hul h0 h10 hle heq hs hsc hl
      · rw [if_neg heq]
        by_cases hlo : c < 6
        · exact effect_lo_type c a b o s h ⟨hc0, hlo⟩ hn hp hm ha t u htu htl hul h0 h10 hle heq hs hsc hl
        · by_cases h36 : c = 36
          · subst h36; exact effect_en_type a b o s h hn hp hm ha t u htu htl hul h0 h10 hle heq hs hsc hl
          · by_cases h37 : c = 37
            · subst h37; exact effect_ex_type a b o s h hn hp hm ha t u htu htl hul h0 h10 hle heq hs hsc hl
            · exact effect_hi_type c a b o s h ⟨by omega, hc1⟩ ⟨h36, h37⟩ hn hp hm ha t u htu htl hul h0 h10 hle heq hs hsc hl
end
end Go.Proofs.YtkphijabhoppnaaDoor
