/- Instructions of the machine as plain data, and the program's check of them. -/
import Derived.Test.YtkphijabhoppnaaGreatDoorAPTextProgramsx4
import Derived.Test.YtkphijabhoppnaaGreatDoorALy
import Derived.Test.YtkphijabhoppnaaGreatDoorALx
import Derived.Test.YtkphijabhoppnaaGreatDoorALi
namespace Go.Proofs.YtkphijabhoppnaaGreatDoor
open Go.RowKit Go.Proofs.YtkphijabhoppnaaGreatDoorW.PrintWords Go.Proofs.YtkphijabhoppnaaGreatDoorW.PrintLast Go.Proofs.YtkphijabhoppnaaGreatDoorW.PrintMore
open Go.Proofs.YtkphijabhoppnaaGreatDoor.PTextPrograms
set_option linter.unusedSimpArgs false
set_option linter.unusedVariables false
structure IR where
  op : Int
  d : Int
  n : Int
  m : Int
  a : Int
  cond : Int
  imm : Int
def fbL : List Int := [32, 0, 37, 37, 35, 35, 35, 7, 7, 7, 7, 7, 7, 15, 15, 7, 7, 7, 7, 23, 32, 48, 33, 33, 32, 2, 2, 2, 35, 35, 35, 7, 7, 3, 3, 3, 7, 32, 0, 0, 2, 2, 32]
def fb (op : Int) : Int := fbL.getD op.toNat 0
def okReg (h : Bool) (v : Int) : Prop := 0 ≤ v ∧ v ≤ 31 ∧ (h = false → v = 0)
instance (h : Bool) (v : Int) : Decidable (okReg h v) := by unfold okReg; infer_instance
def okImm (op v : Int) : Prop :=
  if op = 0 ∨ op = 42 ∨ op = 2 ∨ op = 3 then 0 ≤ v ∧ v ≤ 65535
  else if op = 37 then 0 ≤ v ∧ v ≤ 2
  else if op = 4 ∨ op = 5 ∨ op = 6 ∨ op = 30 then 0 ≤ v ∧ v ≤ 4095
  else if op = 28 ∨ op = 29 then 0 ≤ v ∧ v ≤ 32760 ∧ v % 8 = 0
  else if op = 20 ∨ op = 24 then v % 4 = 0 ∧ -134217728 ≤ v ∧ v ≤ 134217724
  else if op = 21 ∨ op = 22 ∨ op = 23 then v % 4 = 0 ∧ -1048576 ≤ v ∧ v ≤ 1048572
  else v = 0
instance (op v : Int) : Decidable (okImm op v) := by unfold okImm; infer_instance
def hasB (f : Int) (j : Nat) : Bool := f.toNat.testBit j
def okI (i : IR) : Prop :=
  (0 ≤ i.op ∧ i.op ≤ 42) ∧ okReg (hasB (fb i.op) 0) i.d ∧ okReg (hasB (fb i.op) 1) i.n ∧ okReg (hasB (fb i.op) 2) i.m ∧ okReg (hasB (fb i.op) 3) i.a ∧
  (0 ≤ i.cond ∧ i.cond ≤ 15 ∧ (hasB (fb i.op) 4 = false → i.cond = 0)) ∧ okImm i.op i.imm ∧ ((i.op = 2 ∨ i.op = 3) → i.m ≤ 3) ∧ (i.op = 21 → i.cond ≤ 13)
instance (i : IR) : Decidable (okI i) := by unfold okI; infer_instance
theorem up {α : Type} {f : Nat → Option α} (h : ∀ k, LeO (f k) (f (k + 1))) {k : Nat} {r : α} (e : f k = some r) : ∀ m, f (k + m) = some r
  | 0 => e
  | m + 1 => h (k + m) r (up h e m)
theorem op_cases {op : Int} (h : 0 ≤ op ∧ op ≤ 42) : ∃ n : Nat, op = n ∧ n < 43 := ⟨op.toNat, by omega, by omega⟩
theorem op_each {op : Int} (h : 0 ≤ op ∧ op ≤ 42) : op = 0 ∨ op = 1 ∨ op = 2 ∨ op = 3 ∨ op = 4 ∨ op = 5 ∨ op = 6 ∨ op = 7 ∨ op = 8 ∨ op = 9 ∨ op = 10 ∨ op = 11 ∨ op = 12 ∨ op = 13 ∨ op = 14 ∨ op = 15 ∨ op = 16 ∨ op = 17 ∨ op = 18 ∨ op = 19 ∨ op = 20 ∨ op = 21 ∨ op = 22 ∨ op = 23 ∨ op = 24 ∨ op = 25 ∨ op = 26 ∨ op = 27 ∨ op = 28 ∨ op = 29 ∨ op = 30 ∨ op = 31 ∨ op = 32 ∨ op = 33 ∨ op = 34 ∨ op = 35 ∨ op = 36 ∨ op = 37 ∨ op = 38 ∨ op = 39 ∨ op = 40 ∨ op = 41 ∨ op = 42 := by omega
theorem fields_op (op : Int) (h : 0 ≤ op ∧ op ≤ 42) (k : Nat) : a64_fields.f (20 + k) op = some (fb op) := by
  obtain ⟨n, rfl, hn⟩ := op_cases h
  have H : ∀ n : Nat, n < 43 → a64_fields.f 20 (n : Int) = some (fb n) := by decide +kernel
  exact up (a64_fields.mono _) (H n hn) k
theorem rfields_op (op : Int) (h : 0 ≤ op ∧ op ≤ 42) (k : Nat) :
    brazierref2_fields.f (20 + k) op = some (hasB (fb op) 0, hasB (fb op) 1, hasB (fb op) 2, hasB (fb op) 3, hasB (fb op) 4, hasB (fb op) 5) := by
  refine up (brazierref2_fields.mono _) ?_ k
  rcases op_each h with rfl | rfl | rfl | rfl | rfl | rfl | rfl | rfl | rfl | rfl | rfl | rfl | rfl | rfl | rfl | rfl | rfl | rfl | rfl | rfl | rfl | rfl | rfl | rfl | rfl | rfl | rfl | rfl | rfl | rfl | rfl | rfl | rfl | rfl | rfl | rfl | rfl | rfl | rfl | rfl | rfl | rfl | rfl <;> kernel_rfl
theorem hb5 : hasB (fb 0) 5 = true ∧ hasB (fb 1) 5 = false ∧ hasB (fb 2) 5 = true ∧ hasB (fb 3) 5 = true ∧ hasB (fb 4) 5 = true ∧ hasB (fb 5) 5 = true ∧ hasB (fb 6) 5 = true ∧ hasB (fb 7) 5 = false ∧ hasB (fb 8) 5 = false ∧ hasB (fb 9) 5 = false ∧ hasB (fb 10) 5 = false ∧ hasB (fb 11) 5 = false ∧ hasB (fb 12) 5 = false ∧ hasB (fb 13) 5 = false ∧ hasB (fb 14) 5 = false ∧ hasB (fb 15) 5 = false ∧ hasB (fb 16) 5 = false ∧ hasB (fb 17) 5 = false ∧ hasB (fb 18) 5 = false ∧ hasB (fb 19) 5 = false ∧ hasB (fb 20) 5 = true ∧ hasB (fb 21) 5 = true ∧ hasB (fb 22) 5 = true ∧ hasB (fb 23) 5 = true ∧ hasB (fb 24) 5 = true ∧ hasB (fb 25) 5 = false ∧ hasB (fb 26) 5 = false ∧ hasB (fb 27) 5 = false ∧ hasB (fb 28) 5 = true ∧ hasB (fb 29) 5 = true ∧ hasB (fb 30) 5 = true ∧ hasB (fb 31) 5 = false ∧ hasB (fb 32) 5 = false ∧ hasB (fb 33) 5 = false ∧ hasB (fb 34) 5 = false ∧ hasB (fb 35) 5 = false ∧ hasB (fb 36) 5 = false ∧ hasB (fb 37) 5 = true ∧ hasB (fb 38) 5 = false ∧ hasB (fb 39) 5 = false ∧ hasB (fb 40) 5 = false ∧ hasB (fb 41) 5 = false ∧ hasB (fb 42) 5 = true := by decide
theorem fb_bits (op : Int) (h : 0 ≤ op ∧ op ≤ 42) : (∀ j : Nat, j < 4 → Go.bits .and .i64 (shr .i64 (fb op) j) 1 = if hasB (fb op) j then 1 else 0) ∧
    Go.bits .and .i64 (fb op) 16 = (if hasB (fb op) 4 then 16 else 0) ∧ Go.bits .and .i64 (fb op) 32 = (if hasB (fb op) 5 then 32 else 0) := by
  obtain ⟨n, rfl, hn⟩ := op_cases h
  have H : ∀ n : Nat, n < 43 → (∀ j : Nat, j < 4 → Go.bits .and .i64 (shr .i64 (fb n) j) 1 = if hasB (fb n) j then 1 else 0) ∧
    Go.bits .and .i64 (fb n) 16 = (if hasB (fb n) 4 then 16 else 0) ∧ Go.bits .and .i64 (fb n) 32 = (if hasB (fb n) 5 then 32 else 0) := by decide +kernel
  exact H n hn
def fitI (op m c v : Int) : Prop := (hasB (fb op) 5 = true → okImm op v) ∧ ((op = 2 ∨ op = 3) → m ≤ 3) ∧ (op = 21 → c ≤ 13)
instance (op m c v : Int) : Decidable (fitI op m c v) := by unfold fitI; infer_instance
theorem tmod4 (v : Int) : (Int.tmod v 4 = 0) ↔ v % 4 = 0 := by
  rw [← Int.dvd_iff_tmod_eq_zero, Int.dvd_iff_emod_eq_zero]
theorem tmod8 (v : Int) : (Int.tmod v 8 = 0) ↔ v % 8 = 0 := by
  rw [← Int.dvd_iff_tmod_eq_zero, Int.dvd_iff_emod_eq_zero]
theorem tmod8b (v : Int) : (Int.tmod v 8 == 0) = decide (v % 8 = 0) := by rw [Bool.eq_iff_iff]; simp [tmod8]
theorem far_eq (v : Int) (m : Int) (h : 0 ≤ m ∧ m ≤ 1000000000) : a64_far.f v m = some (decide (v % 4 = 0 ∧ -m ≤ v ∧ v < m)) := by
  have e : wrap64 (-m) = -m := by unfold wrap64; omega
  unfold a64_far.f
  rw [e]
  simp only [tmod4]
  by_cases h1 : v % 4 = 0
  · by_cases h2 : -m ≤ v
    · simp [h1, h2]
    · simp [h1, h2]
  · simp [h1]
theorem fits_op (op d n m a c v : Int) (h : 0 ≤ op ∧ op ≤ 42) (k : Nat) : a64_fits.f (k + 10) op d n m a c v = some (decide (fitI op m c v)) := by
  have f1 := far_eq v 134217728 (by omega)
  have f2 := far_eq v 1048576 (by omega)
  rcases op_each h with rfl | rfl | rfl | rfl | rfl | rfl | rfl | rfl | rfl | rfl | rfl | rfl | rfl | rfl | rfl | rfl | rfl | rfl | rfl | rfl | rfl | rfl | rfl | rfl | rfl | rfl | rfl | rfl | rfl | rfl | rfl | rfl | rfl | rfl | rfl | rfl | rfl | rfl | rfl | rfl | rfl | rfl | rfl <;>
  · simp only [a64_fits.f, a64_fits.j0, a64_fits.j1, a64_fits.j2, a64_fits.j3, a64_fits.j4, a64_fits.j5, f1, f2, Option.bind, tmod8]
    simp [fitI, okImm, tmod8, hb5]
    try first
      | done
      | (rw [Bool.eq_iff_iff]; simp only [Bool.and_eq_true, decide_eq_true_eq]; omega)
      | (by_cases hv : 0 ≤ v <;> simp [hv] <;> omega)
      | (by_cases hv : 0 ≤ v <;> by_cases hu : v < 65536 <;> simp [hv, hu] <;> omega)
      | (rw [tmod8b]; by_cases hv : 0 ≤ v <;> by_cases hx : v < 32768 <;> by_cases hy : v % 8 = 0 <;> simp [hv, hx, hy] <;> omega)
      | (by_cases hv : v % 4 = 0 ∧ -1048576 ≤ v ∧ v < 1048576
         · rw [if_pos hv, decide_eq_true hv.1, decide_eq_true hv.2.1, decide_eq_true (show v ≤ 1048572 by omega)]; simp
         · rw [if_neg hv]; congr 1; symm; rw [Bool.and_eq_false_iff]; left; rw [Bool.eq_false_iff]; intro hq; simp only [Bool.and_eq_true, decide_eq_true_eq] at hq; omega)
theorem l0_step (k : Nat) (f : Int) (b : Nat → Bool) (hb : ∀ j : Nat, j < 4 → Go.bits .and .i64 (shr .i64 f j) 1 = if b j then 1 else 0)
    (L : List Int) (hL : L.length = 4) (j : Nat) (hj : j < 4) (v : Int) (hv : rd L j = v) (op d n m a c im : Int) :
    a64_Check.l0 (k + 1) f L 4 j op d n m a c im = if okReg (b j) v then a64_Check.l0 k f L 4 ((j + 1 : Nat) : Int) op d n m a c im else some 1 := by
  have hw : wrap64 ((j : Int) + 1) = ((j + 1 : Nat) : Int) := by unfold wrap64; omega
  rw [a64_Check.l0, if_pos (by omega), if_pos (by omega), if_pos (by rw [hL]; omega), hb j hj, hw, hv]
  have hR : okReg (b j) v ↔ (0 ≤ v ∧ v ≤ 31 ∧ (b j = false → v = 0)) := Iff.rfl
  by_cases h1 : v < 0
  · rw [if_pos h1, if_neg (fun x => by have := (hR.1 x).1; omega)]
  by_cases h2 : v > 31
  · rw [if_neg h1, if_pos h2, if_neg (fun x => by have := (hR.1 x).2.1; omega)]
  rw [if_neg h1, if_neg h2]
  by_cases h3 : v = 0
  · rw [if_pos h3, if_pos (hR.2 ⟨by omega, by omega, fun _ => h3⟩)]
  · rw [if_neg h3]
    cases hbj : b j
    · rw [if_pos (by simp), if_neg (fun x : okReg false v => h3 (x.2.2 rfl))]
    · rw [if_neg (by simp), if_pos (show okReg true v from ⟨by omega, by omega, by simp⟩)]
theorem l0_end (k : Nat) (f : Int) (b4 b5 : Bool) (h4 : Go.bits .and .i64 f 16 = if b4 then 16 else 0) (h5 : Go.bits .and .i64 f 32 = if b5 then 32 else 0)
    (L : List Int) (op d n m a c im : Int) (F : Bool) (hF : a64_fits.f k op d n m a c im = some F) :
    a64_Check.l0 (k + 1) f L 4 4 op d n m a c im = if (0 ≤ c ∧ c ≤ 15 ∧ (b4 = false → c = 0)) ∧ (b5 = false → im = 0) ∧ F = true then some 0 else some 1 := by
  rw [a64_Check.l0, if_neg (by omega), hF, h4, h5]
  by_cases h1 : c < 0
  · rw [if_pos h1, if_neg (fun x => by have := x.1.1; omega)]
  by_cases h2 : c > 15
  · rw [if_neg h1, if_pos h2, if_neg (fun x => by have := x.1.2.1; omega)]
  rw [if_neg h1, if_neg h2]
  have h1' : 0 ≤ c := by omega
  have h2' : c ≤ 15 := by omega
  by_cases h3 : c = 0 <;> by_cases h6 : im = 0 <;> cases b4 <;> cases b5 <;> cases F <;> simp [h3, h6, h1', h2']
theorem checkA (i : IR) (k : Nat) : a64_Check.f (k + 40) i.op i.d i.n i.m i.a i.cond i.imm = some (if okI i then 0 else 1) := by
  obtain ⟨op, d, n, m, a, c, im⟩ := i
  by_cases h : 0 ≤ op ∧ op ≤ 42
  · obtain ⟨hb, h4, h5⟩ := fb_bits op h
    have e0 : a64_Check.f (k + 40) op d n m a c im = a64_Check.l0 (k + 34 + 1 + 1 + 1 + 1 + 1) (fb op) [d, n, m, a] 4 ((0 : Nat) : Int) op d n m a c im := by
      rw [a64_Check.f, if_neg (by omega), show decide (op > 42) = false from by simp; omega, a64_Check.j0]
      rw [if_neg (by simp), show k + 39 = 20 + (k + 19) from by omega, fields_op op h]
      rfl
    have hF := fits_op op d n m a c im h (k + 24)
    rw [e0, l0_step _ _ (hasB (fb op)) hb _ rfl 0 (by omega) d rfl, l0_step _ _ (hasB (fb op)) hb _ rfl 1 (by omega) n rfl,
      l0_step _ _ (hasB (fb op)) hb _ rfl 2 (by omega) m rfl, l0_step _ _ (hasB (fb op)) hb _ rfl 3 (by omega) a rfl]
    rw [show (((3 + 1 : Nat) : Int)) = 4 from rfl, l0_end _ _ _ _ h4 h5 _ _ _ _ _ _ _ _ _ hF]
    have hI : okI ⟨op, d, n, m, a, c, im⟩ ↔ (okReg (hasB (fb op) 0) d ∧ okReg (hasB (fb op) 1) n ∧ okReg (hasB (fb op) 2) m ∧ okReg (hasB (fb op) 3) a ∧
        ((0 ≤ c ∧ c ≤ 15 ∧ (hasB (fb op) 4 = false → c = 0)) ∧ (hasB (fb op) 5 = false → im = 0) ∧ decide (fitI op m c im) = true)) := by
      have hno : hasB (fb op) 5 = false → (okImm op im ↔ im = 0) := by
        intro hn
        rcases op_each h with rfl | rfl | rfl | rfl | rfl | rfl | rfl | rfl | rfl | rfl | rfl | rfl | rfl | rfl | rfl | rfl | rfl | rfl | rfl | rfl | rfl | rfl | rfl | rfl | rfl | rfl | rfl | rfl | rfl | rfl | rfl | rfl | rfl | rfl | rfl | rfl | rfl | rfl | rfl | rfl | rfl | rfl | rfl <;> simp [hb5, okImm] at hn ⊢
      have hd : decide (fitI op m c im) = true ↔ ((hasB (fb op) 5 = true → okImm op im) ∧ ((op = 2 ∨ op = 3) → m ≤ 3) ∧ (op = 21 → c ≤ 13)) := decide_eq_true_iff
      have ho : okI ⟨op, d, n, m, a, c, im⟩ ↔ ((0 ≤ op ∧ op ≤ 42) ∧ okReg (hasB (fb op) 0) d ∧ okReg (hasB (fb op) 1) n ∧ okReg (hasB (fb op) 2) m ∧ okReg (hasB (fb op) 3) a ∧
        (0 ≤ c ∧ c ≤ 15 ∧ (hasB (fb op) 4 = false → c = 0)) ∧ okImm op im ∧ ((op = 2 ∨ op = 3) → m ≤ 3) ∧ (op = 21 → c ≤ 13)) := Iff.rfl
      rw [hd, ho]
      rcases Bool.eq_false_or_eq_true (hasB (fb op) 5) with h5' | h5'
      · constructor
        · rintro ⟨_, p0, p1, p2, p3, p4, p5, p6, p7⟩
          exact ⟨p0, p1, p2, p3, p4, fun x => absurd (h5'.symm.trans x) (by simp), fun _ => p5, p6, p7⟩
        · rintro ⟨p0, p1, p2, p3, p4, p5, p6, p7, p8⟩
          exact ⟨h, p0, p1, p2, p3, p4, p6 h5', p7, p8⟩
      · have := hno h5'
        constructor
        · rintro ⟨_, p0, p1, p2, p3, p4, p5, p6, p7⟩
          exact ⟨p0, p1, p2, p3, p4, fun _ => this.1 p5, fun x => absurd (h5'.symm.trans x) (by simp), p6, p7⟩
        · rintro ⟨p0, p1, p2, p3, p4, p5, p6, p7, p8⟩
          exact ⟨h, p0, p1, p2, p3, p4, this.2 (p5 h5'), p7, p8⟩
    by_cases q0 : okReg (hasB (fb op) 0) d
    · by_cases q1 : okReg (hasB (fb op) 1) n
      · by_cases q2 : okReg (hasB (fb op) 2) m
        · by_cases q3 : okReg (hasB (fb op) 3) a
          · rw [if_pos q0, if_pos q1, if_pos q2, if_pos q3]
            by_cases q4 : (0 ≤ c ∧ c ≤ 15 ∧ (hasB (fb op) 4 = false → c = 0)) ∧ (hasB (fb op) 5 = false → im = 0) ∧ decide (fitI op m c im) = true
            · rw [if_pos q4, if_pos (hI.2 ⟨q0, q1, q2, q3, q4⟩)]
            · rw [if_neg q4, if_neg (fun x => q4 (hI.1 x).2.2.2.2)]
          · rw [if_pos q0, if_pos q1, if_pos q2, if_neg q3, if_neg (fun x => q3 (hI.1 x).2.2.2.1)]
        · rw [if_pos q0, if_pos q1, if_neg q2, if_neg (fun x => q2 (hI.1 x).2.2.1)]
      · rw [if_pos q0, if_neg q1, if_neg (fun x => q1 (hI.1 x).2.1)]
    · rw [if_neg q0, if_neg (fun x => q0 (hI.1 x).1)]
  · have hn : ¬ okI ⟨op, d, n, m, a, c, im⟩ := fun x => h x.1
    rw [if_neg hn, a64_Check.f]
    by_cases h0 : op < 0
    · rw [if_pos h0, a64_Check.j0, if_pos rfl]
    · rw [if_neg h0, show decide (op > 42) = true from by simp; omega, a64_Check.j0, if_pos rfl]
end Go.Proofs.YtkphijabhoppnaaGreatDoor
