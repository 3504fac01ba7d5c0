/- The verifier as plain functions; its first questions (local, field, Thread, named). -/
import Derived.Test.YtkphijabhoppnaaDoorAPVerifyMethodsx4
import Derived.Test.YtkphijabhoppnaaDoorAVa
namespace Go.Proofs.YtkphijabhoppnaaDoor
open Go.RowKit Go.Proofs.YtkphijabhoppnaaDoorW.PrintWords
set_option linter.unusedSimpArgs false
set_option linter.unusedVariables false

abbrev Fld := PVerifyMethods.S179
abbrev Meth := PVerifyMethods.S64
/-- A program as data: the pool, the classes' fields, the methods. -/
structure Pg where
  pool : List Int
  classes : List (List Fld)
  methods : List Meth
abbrev Shp := List Int × Int

/-- A program's slices read so. -/
structure PgC (w : World) (A0 : Option Addr) (c0 : Nat) (A1 : Option Addr) (c1 : Nat) (A2 : Option Addr) (c2 : Nat) (p : Pg) : Prop where
  r0 : Kd.C (Kd.int .i64) w A0 p.pool.length p.pool
  h0 : p.pool.length ≤ c0
  r1 : Kd.C (Kd.slice 179 PVerifyMethods.k179) w A1 p.classes.length p.classes
  h1 : p.classes.length ≤ c1
  r2 : Kd.C PVerifyMethods.k64 w A2 p.methods.length p.methods
  h2 : p.methods.length ≤ c2
theorem PgC.below {w w1 : World} {A0 A1 A2 : Option Addr} {c0 c1 c2 : Nat} {p : Pg} (h : PgC w A0 c0 A1 c1 A2 c2 p) (hb : Below w.heap.size w w1) : PgC w1 A0 c0 A1 c1 A2 c2 p :=
  ⟨Kd.C_below h.r0 hb, h.h0, Kd.C_below h.r1 hb, h.h1, Kd.C_below h.r2 hb, h.h2⟩
/-- A method's slices read so. -/
structure MtC (w : World) (A0 : Option Addr) (c0 : Nat) (A2 : Option Addr) (c2 : Nat) (A4 : Option Addr) (c4 : Nat) (m : Meth) : Prop where
  r0 : Kd.C (Kd.int .i64) w A0 m.f0.length m.f0
  h0 : m.f0.length ≤ c0
  r2 : Kd.C (Kd.int .i64) w A2 m.f2.length m.f2
  h2 : m.f2.length ≤ c2
  r4 : Kd.C (Kd.int .u8) w A4 m.f4.length m.f4
  h4 : m.f4.length ≤ c4
theorem MtC.below {w w1 : World} {A0 A2 A4 : Option Addr} {c0 c2 c4 : Nat} {m : Meth} (h : MtC w A0 c0 A2 c2 A4 c4 m) (hb : Below w.heap.size w w1) : MtC w1 A0 c0 A2 c2 A4 c4 m :=
  ⟨Kd.C_below h.r0 hb, h.h0, Kd.C_below h.r2 hb, h.h2, Kd.C_below h.r4 hb, h.h4⟩

def localS (m : Meth) (n : Int) : Int × Bool :=
  if n < 0 then (0, false) else if n < (m.f0.length : Int) then (rd m.f0 n, true) else if n - (m.f0.length : Int) < (m.f2.length : Int) then (rd m.f2 (n - (m.f0.length : Int)), true) else (0, false)
/-- A field's type, whether it is volatile, whether there is one. -/
def fieldS (p : Pg) (a b : Int) : Int × Bool × Bool :=
  if a < 0 ∨ (p.classes.length : Int) ≤ a ∨ b < 0 ∨ ((PVerifyMethods.rd_L4 p.classes a).length : Int) ≤ b then (0, false, false)
  else ((PVerifyMethods.rd_T179 (PVerifyMethods.rd_L4 p.classes a) b).f0, (PVerifyMethods.rd_T179 (PVerifyMethods.rd_L4 p.classes a) b).f1, true)
def methS (p : Pg) (n : Int) : Meth := PVerifyMethods.rd_T64 p.methods n
def threadS (p : Pg) (n : Int) : Bool :=
  decide (0 ≤ n ∧ n < (p.methods.length : Int) ∧ (methS p n).f0.length = 1 ∧ rd (methS p n).f0 0 = 2 ∧ (methS p n).f1 = 0)
def namedS (p : Pg) (m : Meth) (c a b : Int) : Bool :=
  if c = 1 then decide (0 ≤ a ∧ a < (p.pool.length : Int))
  else if c = 4 ∨ c = 5 then (localS m a).2
  else if c = 27 then decide (0 ≤ a ∧ a < (p.methods.length : Int))
  else if c = 29 then decide (0 ≤ a ∧ a < (p.classes.length : Int))
  else if c = 30 ∨ c = 31 then (fieldS p a b).2.2
  else if c = 32 ∨ c = 33 ∨ c = 34 then decide (a = 1 ∨ a = 2)
  else if c = 38 then threadS p a
  else true

theorem w64v (n : Int) (h : -9223372036854775808 ≤ n ∧ n ≤ 9223372036854775807) : wrap64 n = n := by unfold wrap64; omega
theorem C_len {α : Type} {d : Kd α} {w : World} {A : Option Addr} {n : Nat} {xs : List α} (h : d.C w A n xs) : n ≤ 9223372036854775807 := h.2.1
theorem local_eq (m : Meth) (n : Int) (hn : -9223372036854775808 ≤ n ∧ n ≤ 9223372036854775807) (hl : m.f0.length ≤ 9223372036854775807) : PVerifyMethods.verify_local.f m.f0 m.f1 m.f2 m.f3 m.f4 n = some (localS m n) := by
  unfold PVerifyMethods.verify_local.f localS
  by_cases h0 : n < 0
  · rw [if_pos h0, if_pos h0]
  · rw [if_neg h0, if_neg h0]
    by_cases h1 : n < (m.f0.length : Int)
    · rw [if_pos h1, if_pos h1, if_pos (by omega)]
    · rw [if_neg h1, if_neg h1, w64v _ (by omega)]
      by_cases h2 : n - (m.f0.length : Int) < (m.f2.length : Int)
      · rw [if_pos h2, if_pos h2, if_pos (by omega)]
      · rw [if_neg h2, if_neg h2]
theorem field_eq (p : Pg) (a b : Int) : PVerifyMethods.verify_field.f p.pool p.classes p.methods a b = some (fieldS p a b) := by
  unfold PVerifyMethods.verify_field.f fieldS
  by_cases h0 : a < 0
  · rw [if_pos h0, if_pos (.inl h0)]
  · rw [if_neg h0]
    by_cases h1 : a ≥ (p.classes.length : Int)
    · rw [if_pos h1, if_pos (.inr (.inl h1))]
    · rw [if_neg h1]
      by_cases h2 : b < 0
      · rw [if_pos h2, if_pos (.inr (.inr (.inl h2)))]
      · rw [if_neg h2, if_pos (by omega), if_pos (by omega)]
        by_cases h3 : b ≥ ((PVerifyMethods.rd_L4 p.classes a).length : Int)
        · rw [if_pos h3, if_pos (.inr (.inr (.inr h3)))]
        · rw [if_neg h3, if_pos (by omega), if_pos (by omega), if_neg (by omega)]
theorem thread_eq (p : Pg) (n : Int) : PVerifyMethods.verify_Thread.f p.pool p.classes p.methods n = some (threadS p n) := by
  unfold PVerifyMethods.verify_Thread.f threadS methS
  by_cases h0 : n ≥ 0
  · rw [if_pos h0]
    by_cases h1 : n < (p.methods.length : Int)
    · rw [if_pos h1, if_pos h0]
      by_cases h2 : ((PVerifyMethods.rd_T64 p.methods n).f0.length : Int) = 1
      · rw [if_pos h2, if_pos (by omega)]
        by_cases h3 : rd (PVerifyMethods.rd_T64 p.methods n).f0 0 = 2
        · rw [if_pos h3]
          congr 1
          rw [Bool.eq_iff_iff]
          simp only [beq_iff_eq, decide_eq_true_eq]
          constructor
          · intro h; exact ⟨h0, h1, by omega, h3, h⟩
          · intro h; exact h.2.2.2.2
        · rw [if_neg h3]
          congr 1
          symm
          rw [decide_eq_false_iff_not]
          intro h; exact h3 h.2.2.2.1
      · rw [if_neg h2]
        congr 1
        symm
        rw [decide_eq_false_iff_not]
        intro h; exact h2 (by omega)
    · rw [if_neg h1]
      congr 1
      symm
      rw [decide_eq_false_iff_not]
      intro h; exact h1 h.2.1
  · rw [if_neg h0]
    congr 1
    symm
    rw [decide_eq_false_iff_not]
    intro h; exact h0 h.1
theorem named_eq (p : Pg) (m : Meth) (c a b s : Int) (ha : -9223372036854775808 ≤ a ∧ a ≤ 9223372036854775807) (hl : m.f0.length ≤ 9223372036854775807) :
    PVerifyMethods.verify_named.f 3 p.pool p.classes p.methods m.f0 m.f1 m.f2 m.f3 m.f4 c a b s = some (namedS p m c a b) := by
  have hloc := local_eq m a ha hl
  have hfld := field_eq p a b
  have hthr := thread_eq p a
  have hlt : ∀ n : Nat, (if a ≥ 0 then some (decide (a < (n : Int))) else some false) = some (decide (0 ≤ a ∧ a < (n : Int))) := by
    intro n
    by_cases h : 0 ≤ a
    · rw [if_pos h]; congr 1; simp [h]
    · rw [if_neg h]; congr 1; simp [h]
  have h12 : (if a = 1 then some true else some (a == 2)) = some (decide (a = 1 ∨ a = 2)) := by
    by_cases h : a = 1
    · rw [if_pos h]; simp [h]
    · rw [if_neg h]; congr 1; rw [Bool.eq_iff_iff]; simp [h]
  unfold PVerifyMethods.verify_named.f namedS
  by_cases h1 : c = 1
  · rw [if_pos h1, if_pos h1, hlt]
  · rw [if_neg h1, if_neg h1]
    by_cases h4 : c = 4
    · rw [if_pos h4, if_pos (.inl h4), PVerifyMethods.verify_named.j0, if_pos (by simp [h4]), hloc]
      rfl
    · rw [if_neg h4, PVerifyMethods.verify_named.j0]
      by_cases h5 : c = 5
      · rw [if_pos (by simp [h5]), if_pos (.inr h5), hloc]
        rfl
      · rw [if_neg (by simpa using h5), if_neg (show ¬ (c = 4 ∨ c = 5) by omega)]
        by_cases h27 : c = 27
        · rw [if_pos h27, if_pos h27, hlt]
        · rw [if_neg h27, if_neg h27]
          by_cases h29 : c = 29
          · rw [if_pos h29, if_pos h29, hlt]
          · rw [if_neg h29, if_neg h29]
            by_cases h30 : c = 30
            · rw [if_pos h30, if_pos (.inl h30), PVerifyMethods.verify_named.j1, if_pos (by simp [h30]), hfld]
              rfl
            · rw [if_neg h30, PVerifyMethods.verify_named.j1]
              by_cases h31 : c = 31
              · rw [if_pos (by simp [h31]), if_pos (.inr h31), hfld]
                rfl
              · rw [if_neg (by simpa using h31), if_neg (show ¬ (c = 30 ∨ c = 31) by omega)]
                by_cases h32 : c = 32
                · rw [if_pos h32, if_pos (.inl h32), PVerifyMethods.verify_named.j2, if_pos (by simp [h32]), h12]
                · rw [if_neg h32]
                  by_cases h33 : c = 33
                  · rw [if_pos h33, if_pos (.inr (.inl h33)), PVerifyMethods.verify_named.j2, if_pos (by simp [h33]), h12]
                  · rw [if_neg h33, PVerifyMethods.verify_named.j2]
                    by_cases h34 : c = 34
                    · rw [if_pos (by simp [h34]), if_pos (show c = 32 ∨ c = 33 ∨ c = 34 from .inr (.inr h34)), h12]
                    · rw [if_neg (by simpa using h34), if_neg (show ¬ (c = 32 ∨ c = 33 ∨ c = 34) by omega)]
                      by_cases h38 : c = 38
                      · rw [if_pos h38, if_pos h38, hthr]
                        rfl
                      · rw [if_neg h38, if_neg h38]

def I64 (n : Int) : Prop := -9223372036854775808 ≤ n ∧ n ≤ 9223372036854775807
theorem named_calls {w : World} {A0 A1 A2 B0 B2 B4 : Option Addr} {c0 c1 c2 d0 d2 d4 : Nat} {p : Pg} {m : Meth} (c a b s : Int) (hp : PgC w A0 c0 A1 c1 A2 c2 p) (hm : MtC w B0 d0 B2 d2 B4 d4 m) (ha : I64 a) :
    Calls Tryd.prog 59 #[.agg #[.slice A0 p.pool.length c0, .slice A1 p.classes.length c1, .slice A2 p.methods.length c2], .agg #[.slice B0 m.f0.length d0, .int .i64 m.f1, .slice B2 m.f2.length d2, .int .i64 m.f3, .slice B4 m.f4.length d4], .agg #[.int .i64 c, .int .i64 a, .int .i64 b, .int .i64 s]] w
      fun e w' => e = .returned (.bool (namedS p m c a b)) ∧ Below w.heap.size w w' :=
  PVerifyMethods.verify_named.calls 3 A0 c0 p.pool A1 c1 p.classes A2 c2 p.methods B0 d0 m.f0 m.f1 B2 d2 m.f2 m.f3 B4 d4 m.f4 c a b s (namedS p m c a b) w hp.r0 hp.h0 hp.r1 hp.h1 hp.r2 hp.h2 hm.r0 hm.h0 hm.r2 hm.h2 hm.r4 hm.h4 (named_eq p m c a b s ha (C_len hm.r0))
theorem local_calls {w : World} {B0 B2 B4 : Option Addr} {d0 d2 d4 : Nat} {m : Meth} (n : Int) (hm : MtC w B0 d0 B2 d2 B4 d4 m) (hn : I64 n) :
    Calls Tryd.prog 106 #[.agg #[.slice B0 m.f0.length d0, .int .i64 m.f1, .slice B2 m.f2.length d2, .int .i64 m.f3, .slice B4 m.f4.length d4], .int .i64 n] w
      fun e w' => e = .returned (.tuple #[.int .i64 (localS m n).1, .bool (localS m n).2]) ∧ Below w.heap.size w w' :=
  PVerifyMethods.verify_local.calls B0 d0 m.f0 m.f1 B2 d2 m.f2 m.f3 B4 d4 m.f4 n _ _ w hm.r0 hm.h0 hm.r2 hm.h2 hm.r4 hm.h4 (local_eq m n hn (C_len hm.r0))
theorem field_calls {w : World} {A0 A1 A2 : Option Addr} {c0 c1 c2 : Nat} {p : Pg} (a b : Int) (hp : PgC w A0 c0 A1 c1 A2 c2 p) :
    Calls Tryd.prog 107 #[.agg #[.slice A0 p.pool.length c0, .slice A1 p.classes.length c1, .slice A2 p.methods.length c2], .int .i64 a, .int .i64 b] w
      fun e w' => e = .returned (.tuple #[.agg #[.int .i64 (fieldS p a b).1, .bool (fieldS p a b).2.1], .bool (fieldS p a b).2.2]) ∧ Below w.heap.size w w' :=
  PVerifyMethods.verify_field.calls A0 c0 p.pool A1 c1 p.classes A2 c2 p.methods a b _ _ _ w hp.r0 hp.h0 hp.r1 hp.h1 hp.r2 hp.h2 (field_eq p a b)
/-- A type as a list; of none nothing. -/
def voidS (t : Int) : List Int := if t = 0 then [] else [t]
theorem void_calls (t : Int) (w : World) : Calls Tryd.prog 142 #[.int .i64 t] w fun e w' => ∃ v', e = .returned v' ∧ w'.ownsRow w.heap.size 3 1 v' (voidS t).length (nums .i64 (voidS t)) ∧ Below w.heap.size w w' := by
  refine (PVerifyMethods.verify_void.calls t (voidS t) w (by unfold PVerifyMethods.verify_void.f voidS; split <;> rfl)).mono ?_
  rintro e w' ⟨v, rfl, h1, h2⟩
  exact ⟨v, rfl, Kd.own_of_R h1, h2⟩
end Go.Proofs.YtkphijabhoppnaaDoor
