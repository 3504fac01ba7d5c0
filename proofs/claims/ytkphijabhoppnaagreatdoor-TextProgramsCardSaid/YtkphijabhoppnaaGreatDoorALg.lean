/- The reference's text of an instruction is the program's. -/
import Derived.Test.YtkphijabhoppnaaGreatDoorALf
namespace Go.Proofs.YtkphijabhoppnaaGreatDoor
open Go.RowKit Go.Proofs.YtkphijabhoppnaaGreatDoorW.PrintWords Go.Proofs.YtkphijabhoppnaaGreatDoorW.PrintLast Go.Proofs.YtkphijabhoppnaaGreatDoorW.PrintMore
open Go.Proofs.YtkphijabhoppnaaGreatDoor.PTextPrograms Go.Lib
set_option linter.unusedSimpArgs false
set_option linter.unusedVariables false
theorem bt_at (p : List UInt8) (j : Nat) (h : j < p.length) : bt ⟨p.toArray⟩ (j : Int) = (((p[j]'h).toNat : Nat) : Int) := by
  unfold bt
  have : ((j : Int).toNat) < (⟨p.toArray⟩ : ByteArray).size := by simpa [ByteArray.size] using h
  rw [dif_pos this]
  rfl
theorem ba_app (s t : List UInt8) : (⟨s.toArray⟩ : ByteArray) ++ ⟨t.toArray⟩ = ⟨(s ++ t).toArray⟩ := by
  apply ByteArray.ext; simp
theorem ba_sz (s : List UInt8) : (⟨s.toArray⟩ : ByteArray).size = s.length := by simp [ByteArray.size]
def partRf (i : IR) (c : UInt8) : List UInt8 :=
  if c = 100 then rgT i.d.toNat else if c = 68 then rgT (stk31 i.d) else if c = 110 then rgT i.n.toNat else if c = 78 then rgT (stk31 i.n) else if c = 109 then rgT i.m.toNat
  else if c = 97 then rgT i.a.toNat else if c = 105 then 35 :: itoa i.imm else if c = 107 then itoa i.m else itoa i.cond
theorem parts_same (i : IR) (h : 0 ≤ i.op ∧ i.op ≤ 42) : (pT i.op).map (partS i) = (pR i.op).map (partRf i) := by
  obtain ⟨op, d, n, m, a, c, im⟩ := i
  rcases op_each h with rfl | rfl | rfl | rfl | rfl | rfl | rfl | rfl | rfl | rfl | rfl | rfl | rfl | rfl | rfl | rfl | rfl | rfl | rfl | rfl | rfl | rfl | rfl | rfl | rfl | rfl | rfl | rfl | rfl | rfl | rfl | rfl | rfl | rfl | rfl | rfl | rfl | rfl | rfl | rfl | rfl | rfl | rfl <;>
    simp [pT, pTT, pR, pRT, partS, partRf, dW, nW]
def lettersR : List UInt8 := [100, 68, 110, 78, 109, 97, 105, 107, 99]
theorem pR_facts : ∀ a : Nat, a < 43 → (pRT.getD a []).length ≤ 4 ∧ (∀ c ∈ pRT.getD a [], c ∈ lettersR) ∧ ((pRT.getD a [] = []) ↔ (pTT.getD a [] = [])) := by decide +kernel
theorem rgT_len : ∀ n : Nat, n < 33 → (rgT n).length ≤ 3 := by decide +kernel
theorem stk_lt {n : Int} (h0 : 0 ≤ n) (h1 : n ≤ 31) : stk31 n < 33 := (rg_stk n h0 h1).2.2
theorem itoa_len (v : Int) (h1 : -10000000000 < v) (h2 : v < 10000000000) : (itoa v).length ≤ 11 := by
  unfold itoa
  split
  · have := dec_len v.natAbs 9 (by omega)
    simp; omega
  · have := dec_len v.toNat 9 (by omega)
    omega
theorem partRf_len {i : IR} (h : okI i) (c : UInt8) : (partRf i c).length ≤ 12 := by
  obtain ⟨hd, hn, hm, ha, hc, hi⟩ := okI_regs h
  have r1 := fun n hn => Nat.le_trans (rgT_len n hn) (show 3 ≤ 12 by decide)
  have r2 := fun v h1 h2 => Nat.le_trans (itoa_len v h1 h2) (show 11 ≤ 12 by decide)
  unfold partRf
  repeat' split
  · exact r1 _ (by omega)
  · exact r1 _ (stk_lt hd.1 hd.2)
  · exact r1 _ (by omega)
  · exact r1 _ (stk_lt hn.1 hn.2)
  · exact r1 _ (by omega)
  · exact r1 _ (by omega)
  · have := itoa_len i.imm (by omega) (by omega)
    simp; omega
  · exact r2 _ (by omega) (by omega)
  · exact r2 _ (by omega) (by omega)
theorem rreg (n : Int) (h0 : 0 ≤ n) (h1 : n ≤ 31) (sp : Bool) (k : Nat) : brazierref5_reg.f (k + 20) n sp = some ⟨(rgT (if sp then stk31 n else n.toNat)).toArray⟩ := by
  by_cases h : n = 31
  · subst h
    cases sp
    · rw [brazierref5_reg.f, if_pos rfl, brazierref5_reg.j0, if_neg (by simp), if_pos rfl]; rfl
    · rw [brazierref5_reg.f, if_pos rfl, brazierref5_reg.j0, if_pos rfl]; rfl
  · have e : rgT (if sp then stk31 n else n.toNat) = 120 :: decDigits n.toNat := by
      have : (if sp then stk31 n else n.toNat) = n.toNat := by cases sp <;> simp [stk31, h]
      rw [this, rgT, if_neg (by omega), if_neg (by omega)]
    have hd := dec_any n (by omega) (by omega) (k + 6)
    have hi : itoa n = decDigits n.toNat := by rw [itoa, if_neg (by omega)]
    have hl := dec_len n.toNat 1 (by omega)
    rw [brazierref5_reg.f, if_neg h, brazierref5_reg.j0, if_neg (by simp), if_neg h, show k + 19 = k + 6 + 13 by omega, hd, e, hi]
    simp only [Option.bind]
    rw [if_pos (by rw [ba_sz]; omega)]
    congr 1
theorem ins_j1 (i : IR) (h : okI i) (p : List UInt8) (hp : ∀ c ∈ p, c ∈ lettersR) (hl : p.length ≤ 4) (j : Nat) (hj : j < p.length) (s : List UInt8) (hs : s.length ≤ 1000) (k : Nat) :
    brazierref5_Ins.j1 (k + 31) ⟨s.toArray⟩ ⟨p.toArray⟩ (j : Int) i.op i.d i.n i.m i.a i.cond i.imm =
      brazierref5_Ins.l0 (k + 30) ⟨(s ++ partRf i (p[j]'hj)).toArray⟩ ⟨p.toArray⟩ ((j + 1 : Nat) : Int) i.op i.d i.n i.m i.a i.cond i.imm := by
  obtain ⟨hd, hn, hm, ha, hc, hi⟩ := okI_regs h
  have hw : wrap64 ((j : Int) + 1) = ((j + 1 : Nat) : Int) := by unfold wrap64; omega
  have hmem : p[j]'hj ∈ lettersR := hp _ (List.getElem_mem hj)
  have hpl := partRf_len h (p[j]'hj)
  rw [brazierref5_Ins.j1, if_pos (by omega), if_pos (by rw [ba_sz]; omega), bt_at p j hj, hw]
  obtain ⟨c, hc'⟩ : ∃ c, p[j]'hj = c := ⟨_, rfl⟩
  rw [hc'] at hmem hpl ⊢
  simp only [lettersR, List.mem_cons, List.not_mem_nil, or_false] at hmem
  have kk : k + 30 = k + 10 + 20 := by omega
  have kd : k + 30 = k + 17 + 13 := by omega
  have fin : ∀ t : List UInt8, partRf i c = t → (⟨s.toArray⟩ : ByteArray).size + (⟨t.toArray⟩ : ByteArray).size ≤ 9223372036854775807 := by
    intro t ht
    rw [ba_sz, ba_sz, ← ht]; omega
  rcases hmem with rfl | rfl | rfl | rfl | rfl | rfl | rfl | rfl | rfl
  all_goals
    repeat rw [if_neg (by decide)]
    rw [if_pos (by decide)]
  · rw [kk, rreg _ hd.1 hd.2 false, show rgT (if false = true then stk31 i.d else i.d.toNat) = partRf i 100 from rfl, Option.bind_some, if_pos (fin _ rfl), ba_app]
  · rw [kk, rreg _ hd.1 hd.2 true, show rgT (if true = true then stk31 i.d else i.d.toNat) = partRf i 68 from rfl, Option.bind_some, if_pos (fin _ rfl), ba_app]
  · rw [kk, rreg _ hn.1 hn.2 false, show rgT (if false = true then stk31 i.n else i.n.toNat) = partRf i 110 from rfl, Option.bind_some, if_pos (fin _ rfl), ba_app]
  · rw [kk, rreg _ hn.1 hn.2 true, show rgT (if true = true then stk31 i.n else i.n.toNat) = partRf i 78 from rfl, Option.bind_some, if_pos (fin _ rfl), ba_app]
  · rw [kk, rreg _ hm.1 hm.2 false, show rgT (if false = true then stk31 i.m else i.m.toNat) = partRf i 109 from rfl, Option.bind_some, if_pos (fin _ rfl), ba_app]
  · rw [kk, rreg _ ha.1 ha.2 false, show rgT (if false = true then stk31 i.a else i.a.toNat) = partRf i 97 from rfl, Option.bind_some, if_pos (fin _ rfl), ba_app]
  · have hf := fin _ rfl
    rw [if_pos (by rw [ba_sz]; omega), kd, dec_any _ (by omega) (by omega), Option.bind_some, show (⟨#[35]⟩ : ByteArray) = ⟨[35].toArray⟩ from rfl, ba_app]
    rw [if_pos (by rw [ba_sz, ba_sz, List.length_append]; have := itoa_len i.imm (by omega) (by omega); simp; omega), ba_app, List.append_assoc]; rfl
  · rw [kd, dec_any _ (by omega) (by omega), show itoa i.m = partRf i 107 from rfl, Option.bind_some, if_pos (fin _ rfl), ba_app]
  · rw [kd, dec_any _ (by omega) (by omega), show itoa i.cond = partRf i 99 from rfl, Option.bind_some, if_pos (fin _ rfl), ba_app]
theorem ins_tail (i : IR) (h : okI i) (p : List UInt8) (hp : ∀ c ∈ p, c ∈ lettersR) (hl : p.length ≤ 4) : ∀ (m j : Nat) (s : List UInt8) (k : Nat), j + m = p.length → 1 ≤ j → s.length + 20 * m ≤ 900 →
    brazierref5_Ins.l0 (k + 2 * m + 40) ⟨s.toArray⟩ ⟨p.toArray⟩ (j : Int) i.op i.d i.n i.m i.a i.cond i.imm = some ⟨(s ++ joinTail sep2 ((p.drop j).map (partRf i))).toArray⟩ := by
  intro m
  induction m with
  | zero =>
    intro j s k hj h1 hs
    rw [brazierref5_Ins.l0, if_neg (by rw [ba_sz]; omega), List.drop_of_length_le (by omega)]
    simp [joinTail]
  | succ m ih =>
    intro j s k hj h1 hs
    have hjl : j < p.length := by omega
    have hpl := partRf_len h (p[j]'hjl)
    rw [show k + 2 * (m + 1) + 40 = (k + 2 * m + 10 + 31) + 1 by omega, brazierref5_Ins.l0, if_pos (by rw [ba_sz]; omega), if_neg (by omega), if_pos (by rw [ba_sz]; omega),
      show (⟨#[44, 32]⟩ : ByteArray) = ⟨sep2.toArray⟩ from rfl, ba_app, ins_j1 i h p hp hl j hjl _ (by simp [sep2]; omega), show k + 2 * m + 10 + 30 = k + 2 * m + 40 by omega,
      ih (j + 1) _ k (by omega) (by omega) (by simp [sep2]; omega), List.drop_eq_getElem_cons hjl, List.map_cons]
    simp [joinTail]
theorem ref_ins (i : IR) (k : Nat) : brazierref5_Ins.f (k + 80) i.op i.d i.n i.m i.a i.cond i.imm = some ⟨(insS i).toArray⟩ := by
  rw [brazierref5_Ins.f, show k + 80 = (k + 40) + 40 by omega, checkR, Option.bind_some]
  by_cases h : okI i
  · have hop := h.1
    have hf := pR_facts i.op.toNat (by omega)
    have hnf := nm_facts i.op.toNat (by omega)
    have hpl : (pR i.op).length ≤ 4 := hf.1
    have hpm : ∀ c ∈ pR i.op, c ∈ lettersR := hf.2.1
    have hpe : pR i.op = [] ↔ pT i.op = [] := hf.2.2
    have hnl : (nm5 i.op).length ≤ 5 := hnf.2.1
    rw [if_pos h, if_pos rfl, name_op _ hop, Option.bind_some, show k + 40 + 40 = 20 + (k + 60) by omega, pR_op _ hop, Option.bind_some, insS, if_pos h]
    have hb : insB i = nm5 i.op ++ (if pR i.op = [] then [] else 32 :: join ((pR i.op).map (partRf i)) sep2) := by
      unfold insB restS
      rw [parts_same i hop]
      by_cases hp : pT i.op = []
      · rw [if_pos hp, if_pos (hpe.2 hp)]
      · rw [if_neg hp, if_neg (fun x => hp (hpe.1 x))]
    rw [hb]
    cases hp : pR i.op with
    | nil =>
      rw [show 20 + (k + 60) = (k + 79) + 1 by omega, brazierref5_Ins.l0, if_neg (by rw [ba_sz]; simp)]
      simp
    | cons c cs =>
      rw [hp] at hpl hpm
      have hj0 : 0 < (c :: cs).length := by simp
      have hq := ins_j1 i h (c :: cs) hpm hpl 0 hj0 (nm5 i.op ++ [32]) (by simp; omega) (k + 48)
      rw [show (((0 : Nat) : Int)) = 0 from rfl] at hq
      have hp0 := partRf_len h c
      rw [show 20 + (k + 60) = (k + 48 + 31) + 1 by omega, brazierref5_Ins.l0, if_pos (by rw [ba_sz]; omega), if_pos rfl, if_pos (by rw [ba_sz]; omega),
        show (⟨#[32]⟩ : ByteArray) = ⟨[32].toArray⟩ from rfl, ba_app, hq]
      simp only [List.length_cons] at hpl
      have ht := ins_tail i h (c :: cs) hpm (by simp; omega) cs.length 1 (nm5 i.op ++ [32] ++ partRf i c) (k + 38 - 2 * cs.length) (by simp; omega) (by omega) (by simp; omega)
      rw [show k + 38 - 2 * cs.length + 2 * cs.length + 40 = k + 48 + 30 by omega] at ht
      simp only [List.getElem_cons_zero]
      rw [show ((0 + 1 : Nat) : Int) = ((1 : Nat) : Int) from rfl, ht, if_neg (by simp), List.map_cons, join_cons]
      simp
  · rw [if_neg h, if_neg (by decide), insS, if_neg h]
end Go.Proofs.YtkphijabhoppnaaGreatDoor
