/- The reference's text of an instruction is the program's. -/
import Derived.Test.YtkphijabhoppnaaGreatDoorALf
namespace Go.Proofs.YtkphijabhoppnaaGreatDoor
open Go.RowKit Go.Proofs.YtkphijabhoppnaaGreatDoorW.PrintWords Go.Proofs.YtkphijabhoppnaaGreatDoorW.PrintLast Go.Proofs.YtkphijabhoppnaaGreatDoorW.PrintMore
open Go.Proofs.YtkphijabhoppnaaGreatDoor.PTextPrograms Go.Lib
set_option linter.unusedSimpArgs false
set_option linter.unusedVariables false
theorem ba_app (s t : List UInt8) : (⟨s.toArray⟩ : ByteArray) ++ ⟨t.toArray⟩ = ⟨(s ++ t).toArray⟩ := by
  apply ByteArray.ext; simp
def partRf (i : IR) (c : UInt8) : List UInt8 :=
  if c = 100 then rgT i.d.toNat else if c = 68 then rgT (stk31 i.d) else if c = 110 then rgT i.n.toNat else if c = 78 then rgT (stk31 i.n) else if c = 109 then rgT i.m.toNat
  else if c = 97 then rgT i.a.toNat else if c = 105 then 35 :: itoa i.imm else if c = 107 then itoa i.m else itoa i.cond
theorem parts_same (i : IR) (h : 0 ≤ i.op ∧ i.op ≤ 42) : (pT i.op).map (partS i) = (pR i.op).map (partRf i) := by
  obtain ⟨op, d, n, m, a, c, im⟩ := i
  rcases op_each h with rfl | rfl | rfl | rfl | rfl | rfl | rfl | rfl | rfl | rfl | rfl | rfl | rfl | rfl | rfl | rfl | rfl | rfl | rfl | rfl | rfl | rfl | rfl | rfl | rfl | rfl | rfl | rfl | rfl | rfl | rfl | rfl | rfl | rfl | rfl | rfl | rfl | rfl | rfl | rfl | rfl | rfl | rfl <;>
    simp [pT, pTT, pR, pRT, partS, partRf, dW, nW]
def lettersR : List UInt8 := [100, 68, 110, 78, 109, 97, 105, 107, 99]
theorem pR_facts : ∀ a : Nat, a < 43 → (pRT.getD a []).length ≤ 4 ∧ (∀ c ∈ pRT.getD a [], c ∈ lettersR) ∧ ((pRT.getD a [] = []) ↔ (pTT.getD a [] = [])) := by decide +kernel
theorem rgT_len : ∀ n : Nat, n < 33 → (rgT n).length ≤ 3 := by decide +kernel
theorem stk_lt {n : Int} (h0 : 0 ≤ n) (h1 : n ≤ 31) : stk31 n < 33 := (rg_stk n h0 h1).2.2
theorem itoa_len (v : Int) (h1 : -10000000000 < v) (h2 : v < 10000000000) : (itoa v).length ≤ 11 := by
  unfold itoa
  split
  · have := dec_len v.natAbs 9 (by omega)
    simp; omega
  · have := dec_len v.toNat 9 (by omega)
    omega
theorem partRf_len {i : IR} (h : okI i) (c : UInt8) : (partRf i c).length ≤ 12 := by
  obtain ⟨hd, hn, hm, ha, hc, hi⟩ := okI_regs h
  have r1 := fun n hn => Nat.le_trans (rgT_len n hn) (show 3 ≤ 12 by decide)
  have r2 := fun v h1 h2 => Nat.le_trans (itoa_len v h1 h2) (show 11 ≤ 12 by decide)
  unfold partRf
  repeat' split
  · exact r1 _ (by omega)
  · exact r1 _ (stk_lt hd.1 hd.2)
  · exact r1 _ (by omega)
  · exact r1 _ (stk_lt hn.1 hn.2)
  · exact r1 _ (by omega)
  · exact r1 _ (by omega)
  · have := itoa_len i.imm (by omega) (by omega)
    simp; omega
  · exact r2 _ (by omega) (by omega)
  · exact r2 _ (by omega) (by omega)
end Go.Proofs.YtkphijabhoppnaaGreatDoor
