/- The verifier as plain functions; its first questions (local, field, Thread, named). -/
import Derived.Test.YtkphijabhoppnaaDoorAPVerifyMethodsx2
import Derived.Test.YtkphijabhoppnaaDoorAPVerifyMethodsx3
import Derived.Test.YtkphijabhoppnaaDoorAVa
namespace Go.Proofs.YtkphijabhoppnaaDoor
open Go.RowKit Go.Proofs.YtkphijabhoppnaaDoorW.PrintWords
set_option linter.unusedSimpArgs false
set_option linter.unusedVariables false
abbrev Fld := PVerifyMethods.S179
abbrev Meth := PVerifyMethods.S64
structure Pg where
  pool : List Int
  classes : List (List Fld)
  methods : List Meth
abbrev Shp := List Int × Int
structure PgC (w : World) (A0 : Option Addr) (c0 : Nat) (A1 : Option Addr) (c1 : Nat) (A2 : Option Addr) (c2 : Nat) (p : Pg) : Prop where
  r0 : Kd.C (Kd.int .i64) w A0 p.pool.length p.pool
  h0 : p.pool.length ≤ c0
  r1 : Kd.C (Kd.slice 179 PVerifyMethods.k179) w A1 p.classes.length p.classes
  h1 : p.classes.length ≤ c1
  r2 : Kd.C PVerifyMethods.k64 w A2 p.methods.length p.methods
  h2 : p.methods.length ≤ c2
theorem PgC.below {w w1 : World} {A0 A1 A2 : Option Addr} {c0 c1 c2 : Nat} {p : Pg} (h : PgC w A0 c0 A1 c1 A2 c2 p) (hb : Below w.heap.size w w1) : PgC w1 A0 c0 A1 c1 A2 c2 p :=
  ⟨Kd.C_below h.r0 hb, h.h0, Kd.C_below h.r1 hb, h.h1, Kd.C_below h.r2 hb, h.h2⟩
structure MtC (w : World) (A0 : Option Addr) (c0 : Nat) (A2 : Option Addr) (c2 : Nat) (A4 : Option Addr) (c4 : Nat) (m : Meth) : Prop where
  r0 : Kd.C (Kd.int .i64) w A0 m.f0.length m.f0
  h0 : m.f0.length ≤ c0
  r2 : Kd.C (Kd.int .i64) w A2 m.f2.length m.f2
  h2 : m.f2.length ≤ c2
  r4 : Kd.C (Kd.int .u8) w A4 m.f4.length m.f4
  h4 : m.f4.length ≤ c4
theorem MtC.below {w w1 : World} {A0 A2 A4 : Option Addr} {c0 c2 c4 : Nat} {m : Meth} (h : MtC w A0 c0 A2 c2 A4 c4 m) (hb : Below w.heap.size w w1) : MtC w1 A0 c0 A2 c2 A4 c4 m :=
  ⟨Kd.C_below h.r0 hb, h.h0, Kd.C_below h.r2 hb, h.h2, Kd.C_below h.r4 hb, h.h4⟩
def localS (m : Meth) (n : Int) : Int × Bool :=
  if n < 0 then (0, false) else if n < (m.f0.length : Int) then (rd m.f0 n, true) else if n - (m.f0.length : Int) < (m.f2.length : Int) then (rd m.f2 (n - (m.f0.length : Int)), true) else (0, false)
def fieldS (p : Pg) (a b : Int) : Int × Bool × Bool :=
  if a < 0 ∨ (p.classes.length : Int) ≤ a ∨ b < 0 ∨ ((PVerifyMethods.rd_L4 p.classes a).length : Int) ≤ b then (0, false, false)
  else ((PVerifyMethods.rd_T179 (PVerifyMethods.rd_L4 p.classes a) b).f0, (PVerifyMethods.rd_T179 (PVerifyMethods.rd_L4 p.classes a) b).f1, true)
def methS (p : Pg) (n : Int) : Meth := PVerifyMethods.rd_T64 p.methods n
def threadS (p : Pg) (n : Int) : Bool :=
  decide (0 ≤ n ∧ n < (p.methods.length : Int) ∧ (methS p n).f0.length = 1 ∧ rd (methS p n).f0 0 = 2 ∧ (methS p n).f1 = 0)
def namedS (p : Pg) (m : Meth) (c a b : Int) : Bool :=
  if c = 1 then decide (0 ≤ a ∧ a < (p.pool.length : Int))
  else if c = 4 ∨ c = 5 then (localS m a).2
  else if c = 27 then decide (0 ≤ a ∧ a < (p.methods.length : Int))
  else if c = 29 then decide (0 ≤ a ∧ a < (p.classes.length : Int))
  else if c = 30 ∨ c = 31 then (fieldS p a b).2.2
  else if c = 32 ∨ c = 33 ∨ c = 34 then decide (a = 1 ∨ a = 2)
  else if c = 38 then threadS p a
  else true
theorem w64v (n : Int) (h : -9223372036854775808 ≤ n ∧ n ≤ 9223372036854775807) : wrap64 n = n := by unfold wrap64; omega
theorem C_len {α : Type} {d : Kd α} {w : World} {A : Option Addr} {n : Nat} {xs : List α} (h : d.C w A n xs) : n ≤ 9223372036854775807 := h.2.1
theorem local_eq (m : Meth) (n : Int) (hn : -9223372036854775808 ≤ n ∧ n ≤ 9223372036854775807) (hl : m.f0.length ≤ 9223372036854775807) : PVerifyMethods.verify_local.f m.f0 m.f1 m.f2 m.f3 m.f4 n = some (localS m n) := by
  unfold PVerifyMethods.verify_local.f localS
  by_cases h0 : n < 0
  · rw [if_pos h0, if_pos h0]
  · rw [if_neg h0, if_neg h0]
    by_cases h1 : n < (m.f0.length : Int)
    · rw [if_pos h1, if_pos h1, if_pos (by omega)]
    · rw [if_neg h1, if_neg h1, w64v _ (by omega)]
      by_cases h2 : n - (m.f0.length : Int) < (m.f2.length : Int)
      · rw [if_pos h2, if_pos h2, if_pos (by omega)]
      · rw [if_neg h2, if_neg h2]
theorem field_eq (p : Pg) (a b : Int) : PVerifyMethods.verify_field.f p.pool p.classes p.methods a b = some (fieldS p a b) := by
  unfold PVerifyMethods.verify_field.f fieldS
  by_cases h0 : a < 0
  · rw [if_pos h0, if_pos (.inl h0)]
  · rw [if_neg h0]
    by_cases h1 : a ≥ (p.classes.length : Int)
    · rw [if_pos h1, if_pos (.inr (.inl h1))]
    · rw [if_neg h1]
      by_cases h2 : b < 0
      · rw [if_pos h2, if_pos (.inr (.inr (.inl h2)))]
      · rw [if_neg h2, if_pos (by omega), if_pos (by omega)]
        by_cases h3 : b ≥ ((PVerifyMethods.rd_L4 p.classes a).length : Int)
        · rw [if_pos h3, if_pos (.inr (.inr (.inr h3)))]
        · rw [if_neg h3, if_pos (by omega), if_pos (by omega), if_neg (by omega)]
theorem thread_eq (p : Pg) (n : Int) : PVerifyMethods.verify_Thread.f p.pool p.classes p.methods n = some (threadS p n) := by
  unfold PVerifyMethods.verify_Thread.f threadS methS
  by_cases h0 : n ≥ 0
  · rw [if_pos h0]
    by_cases h1 : n < (p.methods.length : Int)
    · rw [if_pos h1, if_pos h0]
      by_cases h2 : ((PVerifyMethods.rd_T64 p.methods n).f0.length : Int) = 1
      · rw [if_pos h2, if_pos (by omega)]
        by_cases h3 : rd (PVerifyMethods.rd_T64 p.methods n).f0 0 = 2
        · rw [if_pos h3]
          congr 1
          rw [Bool.eq_iff_iff]
          simp only [beq_iff_eq, decide_eq_true_eq]
          constructor
          · intro h; exact ⟨h0, h1, by omega, h3, h⟩
          · intro h; exact h.2.2.2.2
        · rw [if_neg h3]
          congr 1
          symm
          rw [decide_eq_false_iff_not]
          intro h; exact h3 h.2.2.2.1
      · rw [if_neg h2]
        congr 1
        symm
        rw [decide_eq_false_iff_not]
        intro h; exact h2 (by omega)
    · rw [if_neg h1]
      congr 1
      symm
      rw [decide_eq_false_iff_not]
      intro h; exact h1 h.2.1
  · rw [if_neg h0]
    congr 1
    symm
    rw [decide_eq_false_iff_not]
    intro h; exact h0 h.1
def I64 (n : Int) : Prop := -9223372036854775808 ≤ n ∧ n ≤ 9223372036854775807
theorem local_calls {w : World} {B0 B2 B4 : Option Addr} {d0 d2 d4 : Nat} {m : Meth} (n : Int) (hm : MtC w B0 d0 B2 d2 B4 d4 m) (hn : I64 n) :
    Calls Tryd.prog 106 #[.agg #[.slice B0 m.f0.length d0, .int .i64 m.f1, .slice B2 m.f2.length d2, .int .i64 m.f3, .slice B4 m.f4.length d4], .int .i64 n] w
      fun e w' => e = .returned (.tuple #[.int .i64 (localS m n).1, .bool (localS m n).2]) ∧ Below w.heap.size w w' :=
  PVerifyMethods.verify_local.calls B0 d0 m.f0 m.f1 B2 d2 m.f2 m.f3 B4 d4 m.f4 n _ _ w hm.r0 hm.h0 hm.r2 hm.h2 hm.r4 hm.h4 (local_eq m n hn (C_len hm.r0))
theorem field_calls {w : World} {A0 A1 A2 : Option Addr} {c0 c1 c2 : Nat} {p : Pg} (a b : Int) (hp : PgC w A0 c0 A1 c1 A2 c2 p) :
    Calls Tryd.prog 107 #[.agg #[.slice A0 p.pool.length c0, .slice A1 p.classes.length c1, .slice A2 p.methods.length c2], .int .i64 a, .int .i64 b] w
      fun e w' => e = .returned (.tuple #[.agg #[.int .i64 (fieldS p a b).1, .bool (fieldS p a b).2.1], .bool (fieldS p a b).2.2]) ∧ Below w.heap.size w w' :=
  PVerifyMethods.verify_field.calls A0 c0 p.pool A1 c1 p.classes A2 c2 p.methods a b _ _ _ w hp.r0 hp.h0 hp.r1 hp.h1 hp.r2 hp.h2 (field_eq p a b)
theorem thread_calls {w : World} {A0 A1 A2 : Option Addr} {c0 c1 c2 : Nat} {p : Pg} (n : Int) (hp : PgC w A0 c0 A1 c1 A2 c2 p) :
    Calls Tryd.prog 108 #[.agg #[.slice A0 p.pool.length c0, .slice A1 p.classes.length c1, .slice A2 p.methods.length c2], .int .i64 n] w
      fun e w' => e = .returned (.bool (threadS p n)) ∧ Below w.heap.size w w' :=
  PVerifyMethods.verify_Thread.calls A0 c0 p.pool A1 c1 p.classes A2 c2 p.methods n _ w hp.r0 hp.h0 hp.r1 hp.h1 hp.r2 hp.h2 (thread_eq p n)
section
variable {w : World} {A0 A1 A2 B0 B2 B4 : Option Addr} {c0 c1 c2 d0 d2 d4 : Nat} {p : Pg} {m : Meth}
set_option maxRecDepth 100000 in
set_option maxHeartbeats 1600000 in
theorem named_one (c a b s : Int) (n : Nat) (h : (c = 1 ∧ n = p.pool.length) ∨ (c = 27 ∧ n = p.methods.length) ∨ (c = 29 ∧ n = p.classes.length)) :
    Calls Tryd.prog 59 #[.agg #[.slice A0 p.pool.length c0, .slice A1 p.classes.length c1, .slice A2 p.methods.length c2], .agg #[.slice B0 m.f0.length d0, .int .i64 m.f1, .slice B2 m.f2.length d2, .int .i64 m.f3, .slice B4 m.f4.length d4], .agg #[.int .i64 c, .int .i64 a, .int .i64 b, .int .i64 s]] w fun e w' => e = .returned (.bool (decide (0 ≤ a ∧ a < (n : Int)))) ∧ Below w.heap.size w w' := by
  have hB : Below w.heap.size w (((w.alloc (.cells #[.slice A0 p.pool.length c0, .slice A1 p.classes.length c1, .slice A2 p.methods.length c2] 59)).alloc (.cells #[.slice B0 m.f0.length d0, .int .i64 m.f1, .slice B2 m.f2.length d2, .int .i64 m.f3, .slice B4 m.f4.length d4] 64)).alloc (.cells #[.int .i64 c, .int .i64 a, .int .i64 b, .int .i64 s] 25)) := (((Below.refl _ w).alloc (Nat.le_refl _) _).alloc (by simp) _).alloc (by simp; omega) _
  by_cases ha : 0 ≤ a
  · have t1 : decide (0 ≤ a) = true := decide_eq_true ha
    have e : decide (0 ≤ a ∧ a < (n : Int)) = decide (a < (n : Int)) := by simp [ha]
    rw [e]
    clear ha e
    rcases h with ⟨rfl, rfl⟩ | ⟨rfl, rfl⟩ | ⟨rfl, rfl⟩
    all_goals
      go_enter Tryd.func59, Tryd.ntmps59
      go_wp2_with fail
      go_ret
      exact ⟨rfl, hB⟩
  · have t1 : decide (0 ≤ a) = false := decide_eq_false ha
    have e : decide (0 ≤ a ∧ a < (n : Int)) = false := by simp [ha]
    rw [e]
    clear ha e
    rcases h with ⟨rfl, rfl⟩ | ⟨rfl, rfl⟩ | ⟨rfl, rfl⟩
    all_goals
      go_enter Tryd.func59, Tryd.ntmps59
      go_wp2_with fail
      go_ret
      exact ⟨rfl, hB⟩
set_option maxRecDepth 100000 in
set_option maxHeartbeats 1600000 in
theorem named_kind (c a b s : Int) (h : c = 32 ∨ c = 33 ∨ c = 34) :
    Calls Tryd.prog 59 #[.agg #[.slice A0 p.pool.length c0, .slice A1 p.classes.length c1, .slice A2 p.methods.length c2], .agg #[.slice B0 m.f0.length d0, .int .i64 m.f1, .slice B2 m.f2.length d2, .int .i64 m.f3, .slice B4 m.f4.length d4], .agg #[.int .i64 c, .int .i64 a, .int .i64 b, .int .i64 s]] w fun e w' => e = .returned (.bool (decide (a = 1 ∨ a = 2))) ∧ Below w.heap.size w w' := by
  have hB : Below w.heap.size w (((w.alloc (.cells #[.slice A0 p.pool.length c0, .slice A1 p.classes.length c1, .slice A2 p.methods.length c2] 59)).alloc (.cells #[.slice B0 m.f0.length d0, .int .i64 m.f1, .slice B2 m.f2.length d2, .int .i64 m.f3, .slice B4 m.f4.length d4] 64)).alloc (.cells #[.int .i64 c, .int .i64 a, .int .i64 b, .int .i64 s] 25)) := (((Below.refl _ w).alloc (Nat.le_refl _) _).alloc (by simp) _).alloc (by simp; omega) _
  obtain ⟨r, hr⟩ : ∃ r, decide (a = 1 ∨ a = 2) = r := ⟨_, rfl⟩
  rw [hr]
  by_cases h1 : a = 1
  · have t1 : (a == 1) = true := by simp [h1]
    have e : r = true := by rw [← hr]; simp [h1]
    subst e
    clear hr h1
    rcases h with rfl | rfl | rfl
    all_goals
      go_enter Tryd.func59, Tryd.ntmps59
      go_wp2_with fail
      go_ret
      exact ⟨rfl, hB⟩
  · have t1 : (a == 1) = false := by simpa using h1
    obtain ⟨q, hs⟩ : ∃ q, (a == 2) = q := ⟨_, rfl⟩
    have e : r = q := by rw [← hr, ← hs]; simp [h1]; rfl
    subst e
    clear hr h1
    rcases h with rfl | rfl | rfl
    all_goals
      go_enter Tryd.func59, Tryd.ntmps59
      go_wp2_with fail
      go_ret
      exact ⟨by first | rfl | rw [← hs]; rfl, hB⟩
set_option maxRecDepth 100000 in
set_option maxHeartbeats 1600000 in
theorem named_rest (c a b s : Int) (hp : PgC w A0 c0 A1 c1 A2 c2 p) (hm : MtC w B0 d0 B2 d2 B4 d4 m) (ha : I64 a) (r : Bool)
    (h : ((c = 4 ∨ c = 5) ∧ (localS m a).2 = r) ∨ ((c = 30 ∨ c = 31) ∧ (fieldS p a b).2.2 = r) ∨ (c = 38 ∧ threadS p a = r)) :
    Calls Tryd.prog 59 #[.agg #[.slice A0 p.pool.length c0, .slice A1 p.classes.length c1, .slice A2 p.methods.length c2], .agg #[.slice B0 m.f0.length d0, .int .i64 m.f1, .slice B2 m.f2.length d2, .int .i64 m.f3, .slice B4 m.f4.length d4], .agg #[.int .i64 c, .int .i64 a, .int .i64 b, .int .i64 s]] w fun e w' => e = .returned (.bool r) ∧ Below w.heap.size w w' := by
  have hB : Below w.heap.size w (((w.alloc (.cells #[.slice A0 p.pool.length c0, .slice A1 p.classes.length c1, .slice A2 p.methods.length c2] 59)).alloc (.cells #[.slice B0 m.f0.length d0, .int .i64 m.f1, .slice B2 m.f2.length d2, .int .i64 m.f3, .slice B4 m.f4.length d4] 64)).alloc (.cells #[.int .i64 c, .int .i64 a, .int .i64 b, .int .i64 s] 25)) := (((Below.refl _ w).alloc (Nat.le_refl _) _).alloc (by simp) _).alloc (by simp; omega) _
  have hL := fun V (hV : Below w.heap.size w V) => local_calls a (hm.below hV) ha
  have hF := fun V (hV : Below w.heap.size w V) => field_calls a b (hp.below hV)
  have hT := fun V (hV : Below w.heap.size w V) => thread_calls a (hp.below hV)
  have HL := Lib.hid hL
  have HF := Lib.hid hF
  have HT := Lib.hid hT
  have HB := Lib.hid hB
  clear hL hF hT hB hp hm ha
  rcases h with ⟨rfl | rfl, rfl⟩ | ⟨rfl | rfl, rfl⟩ | ⟨rfl, rfl⟩
  all_goals
    go_enter Tryd.func59, Tryd.ntmps59
    go_wp2_with (first | (go_at_call 106; refine (HL.out _ HB.out).mono ?_; rintro e w1 ⟨rfl, hb1⟩) | (go_at_call 107; refine (HF.out _ HB.out).mono ?_; rintro e w1 ⟨rfl, hb1⟩) | (go_at_call 108; refine (HT.out _ HB.out).mono ?_; rintro e w1 ⟨rfl, hb1⟩))
    go_ret
    exact ⟨rfl, HB.out.trans (hb1.mono HB.out.size)⟩
set_option maxRecDepth 100000 in
set_option maxHeartbeats 1600000 in
theorem named_other (c a b s : Int) (h : c ≠ 1 ∧ c ≠ 4 ∧ c ≠ 5 ∧ c ≠ 27 ∧ c ≠ 29 ∧ c ≠ 30 ∧ c ≠ 31 ∧ c ≠ 32 ∧ c ≠ 33 ∧ c ≠ 34 ∧ c ≠ 38) :
    Calls Tryd.prog 59 #[.agg #[.slice A0 p.pool.length c0, .slice A1 p.classes.length c1, .slice A2 p.methods.length c2], .agg #[.slice B0 m.f0.length d0, .int .i64 m.f1, .slice B2 m.f2.length d2, .int .i64 m.f3, .slice B4 m.f4.length d4], .agg #[.int .i64 c, .int .i64 a, .int .i64 b, .int .i64 s]] w fun e w' => e = .returned (.bool true) ∧ Below w.heap.size w w' := by
  have hB : Below w.heap.size w (((w.alloc (.cells #[.slice A0 p.pool.length c0, .slice A1 p.classes.length c1, .slice A2 p.methods.length c2] 59)).alloc (.cells #[.slice B0 m.f0.length d0, .int .i64 m.f1, .slice B2 m.f2.length d2, .int .i64 m.f3, .slice B4 m.f4.length d4] 64)).alloc (.cells #[.int .i64 c, .int .i64 a, .int .i64 b, .int .i64 s] 25)) := (((Below.refl _ w).alloc (Nat.le_refl _) _).alloc (by simp) _).alloc (by simp; omega) _
  obtain ⟨h1, h4, h5, h27, h29, h30, h31, h32, h33, h34, h38⟩ := h
  have e1 : (c == 1) = false := by simpa using h1
  have e4 : (c == 4) = false := by simpa using h4
  have e5 : (c == 5) = false := by simpa using h5
  have e27 : (c == 27) = false := by simpa using h27
  have e29 : (c == 29) = false := by simpa using h29
  have e30 : (c == 30) = false := by simpa using h30
  have e31 : (c == 31) = false := by simpa using h31
  have e32 : (c == 32) = false := by simpa using h32
  have e33 : (c == 33) = false := by simpa using h33
  have e34 : (c == 34) = false := by simpa using h34
  have e38 : (c == 38) = false := by simpa using h38
  clear h1 h4 h5 h27 h29 h30 h31 h32 h33 h34 h38
  go_enter Tryd.func59, Tryd.ntmps59
  go_wp2_with fail
  go_ret
  exact ⟨rfl, hB⟩
theorem named_calls (c a b s : Int) (hp : PgC w A0 c0 A1 c1 A2 c2 p) (hm : MtC w B0 d0 B2 d2 B4 d4 m) (ha : I64 a) :
    Calls Tryd.prog 59 #[.agg #[.slice A0 p.pool.length c0, .slice A1 p.classes.length c1, .slice A2 p.methods.length c2], .agg #[.slice B0 m.f0.length d0, .int .i64 m.f1, .slice B2 m.f2.length d2, .int .i64 m.f3, .slice B4 m.f4.length d4], .agg #[.int .i64 c, .int .i64 a, .int .i64 b, .int .i64 s]] w fun e w' => e = .returned (.bool (namedS p m c a b)) ∧ Below w.heap.size w w' := by
  unfold namedS
  by_cases h1 : c = 1
  · rw [if_pos h1]; exact named_one c a b s _ (.inl ⟨h1, rfl⟩)
  · rw [if_neg h1]
    by_cases h4 : c = 4 ∨ c = 5
    · rw [if_pos h4]; exact named_rest c a b s hp hm ha _ (.inl ⟨h4, rfl⟩)
    · rw [if_neg h4]
      by_cases h27 : c = 27
      · rw [if_pos h27]; exact named_one c a b s _ (.inr (.inl ⟨h27, rfl⟩))
      · rw [if_neg h27]
        by_cases h29 : c = 29
        · rw [if_pos h29]; exact named_one c a b s _ (.inr (.inr ⟨h29, rfl⟩))
        · rw [if_neg h29]
          by_cases h30 : c = 30 ∨ c = 31
          · rw [if_pos h30]; exact named_rest c a b s hp hm ha _ (.inr (.inl ⟨h30, rfl⟩))
          · rw [if_neg h30]
            by_cases h32 : c = 32 ∨ c = 33 ∨ c = 34
            · rw [if_pos h32]; exact named_kind c a b s h32
            · rw [if_neg h32]
              by_cases h38 : c = 38
              · rw [if_pos h38]; exact named_rest c a b s hp hm ha _ (.inr (.inr ⟨h38, rfl⟩))
              · rw [if_neg h38]; exact named_other c a b s (by omega)
end
def voidS (t : Int) : List Int := if t = 0 then [] else [t]
theorem void_calls (t : Int) (w : World) : Calls Tryd.prog 142 #[.int .i64 t] w fun e w' => ∃ v', e = .returned v' ∧ w'.ownsRow w.heap.size 3 1 v' (voidS t).length (nums .i64 (voidS t)) ∧ Below w.heap.size w w' := by
  refine (PVerifyMethods.verify_void.calls t (voidS t) w (by unfold PVerifyMethods.verify_void.f voidS; split <;> rfl)).mono ?_
  rintro e w' ⟨v, rfl, h1, h2⟩
  exact ⟨v, rfl, Kd.own_of_R h1, h2⟩
end Go.Proofs.YtkphijabhoppnaaDoor
