/- The reference's check of an instruction is the program's. -/
import Derived.Test.YtkphijabhoppnaaGreatDoorALa
namespace Go.Proofs.YtkphijabhoppnaaGreatDoor
open Go.RowKit Go.Proofs.YtkphijabhoppnaaGreatDoorW.PrintWords Go.Proofs.YtkphijabhoppnaaGreatDoorW.PrintLast Go.Proofs.YtkphijabhoppnaaGreatDoorW.PrintMore
open Go.Proofs.YtkphijabhoppnaaGreatDoor.PTextPrograms
set_option linter.unusedSimpArgs false
set_option linter.unusedVariables false
theorem rreg_eq (h : Bool) (v : Int) : brazierref2_reg.f h v = some (decide (okReg h v)) := by
  have hR : okReg h v ↔ (0 ≤ v ∧ v ≤ 31 ∧ (h = false → v = 0)) := Iff.rfl
  unfold brazierref2_reg.f
  cases h
  · rw [if_neg (by simp)]
    congr 1
    rw [Bool.eq_iff_iff]
    simp only [beq_iff_eq, decide_eq_true_eq]
    constructor
    · intro e; exact ⟨by omega, by omega, fun _ => e⟩
    · intro x; exact x.2.2 rfl
  · rw [if_pos rfl]
    by_cases h1 : v ≥ 0
    · by_cases h2 : v ≤ 31
      · rw [if_pos h1, if_pos h2, decide_eq_true (show okReg true v from ⟨h1, h2, by simp⟩)]
      · rw [if_pos h1, if_neg h2, decide_eq_false (fun x => h2 (hR.1 x).2.1)]
    · rw [if_neg h1, decide_eq_false (fun x => h1 (hR.1 x).1)]
theorem jumps26 (v : Int) : brazierref2_jumps.f v 26 = some (decide (v % 4 = 0 ∧ -134217728 ≤ v ∧ v ≤ 134217724)) := by
  have e1 : IntKind.u64.wrap (wrap64 (26 + 1)) = 27 := by decide +kernel
  have e2 : shl .i64 1 27 = 134217728 := by decide +kernel
  unfold brazierref2_jumps.f
  rw [e1, e2, show wrap64 (-134217728) = -134217728 by decide +kernel, show wrap64 (134217728 - 4) = 134217724 by decide +kernel]
  simp only [tmod4]
  by_cases h1 : v % 4 = 0
  · by_cases h2 : -134217728 ≤ v
    · simp [h1, h2]
    · simp [h1, h2]
  · simp [h1]
theorem jumps19 (v : Int) : brazierref2_jumps.f v 19 = some (decide (v % 4 = 0 ∧ -1048576 ≤ v ∧ v ≤ 1048572)) := by
  have e1 : IntKind.u64.wrap (wrap64 (19 + 1)) = 20 := by decide +kernel
  have e2 : shl .i64 1 20 = 1048576 := by decide +kernel
  unfold brazierref2_jumps.f
  rw [e1, e2, show wrap64 (-1048576) = -1048576 by decide +kernel, show wrap64 (1048576 - 4) = 1048572 by decide +kernel]
  simp only [tmod4]
  by_cases h1 : v % 4 = 0
  · by_cases h2 : -1048576 ≤ v
    · simp [h1, h2]
    · simp [h1, h2]
  · simp [h1]
theorem imm_op (op d n m a c v : Int) (h : 0 ≤ op ∧ op ≤ 42) (k : Nat) : brazierref2_imm.f (k + 10) op d n m a c v = some (decide (okImm op v)) := by
  have f1 := jumps26 v
  have f2 := jumps19 v
  rcases op_each h with rfl | rfl | rfl | rfl | rfl | rfl | rfl | rfl | rfl | rfl | rfl | rfl | rfl | rfl | rfl | rfl | rfl | rfl | rfl | rfl | rfl | rfl | rfl | rfl | rfl | rfl | rfl | rfl | rfl | rfl | rfl | rfl | rfl | rfl | rfl | rfl | rfl | rfl | rfl | rfl | rfl | rfl | rfl <;>
  · simp only [brazierref2_imm.f, brazierref2_imm.j0, brazierref2_imm.j1, brazierref2_imm.j2, brazierref2_imm.j3, f1, f2, Option.bind, tmod8]
    simp [okImm, tmod8]
    try first
      | done
      | rfl
      | (rw [Bool.eq_iff_iff]; simp only [Bool.and_eq_true, decide_eq_true_eq]; omega)
      | (by_cases hv : 0 ≤ v <;> simp [hv] <;> omega)
      | (rw [tmod8b]; by_cases hv : 0 ≤ v <;> by_cases hx : v ≤ 32760 <;> by_cases hy : v % 8 = 0 <;> simp [hv, hx, hy] <;> omega)
theorem checkR (i : IR) (k : Nat) : brazierref2_Check.f (k + 40) i.op i.d i.n i.m i.a i.cond i.imm = some (if okI i then 0 else 1) := by
  obtain ⟨op, d, n, m, a, c, im⟩ := i
  show brazierref2_Check.f (k + 40) op d n m a c im = _
  by_cases h : 0 ≤ op ∧ op ≤ 42
  · have ho : okI ⟨op, d, n, m, a, c, im⟩ ↔ ((0 ≤ op ∧ op ≤ 42) ∧ okReg (hasB (fb op) 0) d ∧ okReg (hasB (fb op) 1) n ∧ okReg (hasB (fb op) 2) m ∧ okReg (hasB (fb op) 3) a ∧
        (0 ≤ c ∧ c ≤ 15 ∧ (hasB (fb op) 4 = false → c = 0)) ∧ okImm op im ∧ ((op = 2 ∨ op = 3) → m ≤ 3) ∧ (op = 21 → c ≤ 13)) := Iff.rfl
    have j1T : ∀ k b, brazierref2_Check.j1 (k + 1) b true op d n m a c im = some 1 := fun k b => by rw [brazierref2_Check.j1, if_pos rfl]
    rw [brazierref2_Check.f, if_neg (by omega), show decide (op > 42) = false from by simp; omega, brazierref2_Check.j0]
    rw [if_neg (by simp), show k + 39 = 20 + (k + 19) from by omega, rfields_op op h]
    simp only [Option.bind, rreg_eq]
    rw [show 20 + (k + 19) = k + 29 + 10 from by omega, imm_op op d n m a c im h, show k + 29 + 10 = (k + 38) + 1 from by omega]
    by_cases q0 : okReg (hasB (fb op) 0) d
    · by_cases q1 : okReg (hasB (fb op) 1) n
      · by_cases q2 : okReg (hasB (fb op) 2) m
        · by_cases q3 : okReg (hasB (fb op) 3) a
          · simp only [q0, q1, q2, q3, decide_true, if_true]
            by_cases q4 : okImm op im
            · simp only [q4, decide_true, Bool.not_true]
              have hj2 : ∀ b, brazierref2_Check.j2 (k + 37 + 1) (hasB (fb op) 4) b op d n m a c im = some (if b = false ∧ (0 ≤ c ∧ c ≤ 15 ∧ (hasB (fb op) 4 = false → c = 0)) ∧ (op = 21 → c ≤ 13) then 0 else 1) := by
                intro b
                rw [brazierref2_Check.j2]
                cases b
                · rcases Bool.eq_false_or_eq_true (hasB (fb op) 4) with hc | hc <;> rw [hc] <;> by_cases c0 : c < 0 <;> by_cases c1 : c > 15 <;> by_cases c2 : op = 21 <;> by_cases c3 : c > 13 <;> by_cases c4 : c = 0 <;> simp [c0, c1, c2, c3, c4] <;> omega
                · simp
              rw [brazierref2_Check.j1, if_neg (by simp)]
              simp only [hj2]
              by_cases e2 : op = 2
              · rw [if_pos e2]
                congr 1
                by_cases g : m > 3
                · rw [if_neg (by simp [g]), if_neg (fun x => by have := (ho.1 x).2.2.2.2.2.2.2.1 (Or.inl e2); omega)]
                · by_cases g2 : (0 ≤ c ∧ c ≤ 15 ∧ (hasB (fb op) 4 = false → c = 0)) ∧ (op = 21 → c ≤ 13)
                  · rw [if_pos ⟨by simp; omega, g2⟩, if_pos (ho.2 ⟨h, q0, q1, q2, q3, g2.1, q4, fun _ => by omega, g2.2⟩)]
                  · rw [if_neg (fun x => g2 x.2), if_neg (fun x => g2 ⟨(ho.1 x).2.2.2.2.2.1, (ho.1 x).2.2.2.2.2.2.2.2⟩)]
              · rw [if_neg e2]
                by_cases e3 : op = 3
                · rw [if_pos e3]
                  congr 1
                  by_cases g : m > 3
                  · rw [if_neg (by simp [g]), if_neg (fun x => by have := (ho.1 x).2.2.2.2.2.2.2.1 (Or.inr e3); omega)]
                  · by_cases g2 : (0 ≤ c ∧ c ≤ 15 ∧ (hasB (fb op) 4 = false → c = 0)) ∧ (op = 21 → c ≤ 13)
                    · rw [if_pos ⟨by simp; omega, g2⟩, if_pos (ho.2 ⟨h, q0, q1, q2, q3, g2.1, q4, fun _ => by omega, g2.2⟩)]
                    · rw [if_neg (fun x => g2 x.2), if_neg (fun x => g2 ⟨(ho.1 x).2.2.2.2.2.1, (ho.1 x).2.2.2.2.2.2.2.2⟩)]
                · rw [if_neg e3]
                  congr 1
                  by_cases g2 : (0 ≤ c ∧ c ≤ 15 ∧ (hasB (fb op) 4 = false → c = 0)) ∧ (op = 21 → c ≤ 13)
                  · rw [if_pos ⟨by simp, g2⟩, if_pos (ho.2 ⟨h, q0, q1, q2, q3, g2.1, q4, fun x => by omega, g2.2⟩)]
                  · rw [if_neg (fun x => g2 x.2), if_neg (fun x => g2 ⟨(ho.1 x).2.2.2.2.2.1, (ho.1 x).2.2.2.2.2.2.2.2⟩)]
            · simp only [q4, decide_false, Bool.not_false, j1T]
              rw [if_neg (fun x => q4 (ho.1 x).2.2.2.2.2.2.1)]
          · simp only [q0, q1, q2, q3, decide_true, decide_false, if_true, j1T]
            rw [if_neg (fun x => q3 (ho.1 x).2.2.2.2.1)]; simp
        · simp only [q0, q1, q2, decide_true, decide_false, if_true, j1T]
          rw [if_neg (fun x => q2 (ho.1 x).2.2.2.1)]; simp
      · simp only [q0, q1, decide_true, decide_false, if_true, j1T]
        rw [if_neg (fun x => q1 (ho.1 x).2.2.1)]; simp
    · simp only [q0, decide_false, j1T]
      rw [if_neg (fun x => q0 (ho.1 x).2.1)]; simp
  · have hn : ¬ okI ⟨op, d, n, m, a, c, im⟩ := fun x => h x.1
    rw [if_neg hn, brazierref2_Check.f]
    by_cases h0 : op < 0
    · rw [if_pos h0, brazierref2_Check.j0, if_pos rfl]
    · rw [if_neg h0, show decide (op > 42) = true from by simp; omega, brazierref2_Check.j0, if_pos rfl]
end Go.Proofs.YtkphijabhoppnaaGreatDoor
