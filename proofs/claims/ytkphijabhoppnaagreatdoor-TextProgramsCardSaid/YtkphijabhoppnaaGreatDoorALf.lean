/- Texts of instructions as plain data: what is written, and what is read of it. -/
import Derived.Lib.SplitLaws
import Derived.Lib.Join
import Derived.Lib.ParseIntBTie
import Derived.Test.YtkphijabhoppnaaGreatDoorALe
namespace Go.Proofs.YtkphijabhoppnaaGreatDoor
open Go.Lib
set_option linter.unusedSimpArgs false
set_option linter.unusedVariables false
def sep2 : List UInt8 := [44, 32]
theorem index_behind (p r : List UInt8) (c : UInt8) (t : List UInt8) (h : c ∉ p) : index (p ++ (c :: t ++ r)) (c :: t) = p.length := by
  refine index_first (by simp) ?_ ?_
  · rw [occAt_iff_take _ _ _ (by simp)]
    simp
  · intro j hj
    cases hb : occAt (p ++ (c :: t ++ r)) (c :: t) j with
    | false => rfl
    | true =>
      have := occAt_head rfl hb
      rw [List.getElem?_append_left hj] at this
      exact absurd (List.mem_of_getElem? this) h
theorem index_nowhere (p : List UInt8) (c : UInt8) (t : List UInt8) (h : c ∉ p) : index p (c :: t) = -1 := by
  refine index_none fun j _ => ?_
  cases hb : occAt p (c :: t) j with
  | false => rfl
  | true => exact absurd (List.mem_of_getElem? (occAt_head rfl hb)) h
theorem join_two (p q : List UInt8) (r : List (List UInt8)) (sep : List UInt8) : join (p :: q :: r) sep = p ++ (sep ++ join (q :: r) sep) := by
  rw [join_cons, join_cons]; simp [joinTail]
theorem split_join : ∀ (r : List (List UInt8)) (p : List UInt8), (∀ x ∈ p :: r, (44 : UInt8) ∉ x) →
    count (join (p :: r) sep2) sep2 = r.length ∧ splitK sep2 0 r.length (join (p :: r) sep2) = p :: r := by
  intro r
  induction r with
  | nil => intro p h; rw [join_one]; exact ⟨count_miss (index_nowhere p 44 [32] (h p (by simp))), rfl⟩
  | cons q r ih =>
    intro p h
    obtain ⟨h1, h2⟩ := ih q (fun x hx => h x (List.mem_cons_of_mem _ hx))
    have hi : index (join (p :: q :: r) sep2) sep2 = (p.length : Nat) := by
      rw [join_two]; exact index_behind p _ 44 [32] (h p (by simp))
    have hd : (join (p :: q :: r) sep2).drop (p.length + sep2.length) = join (q :: r) sep2 := by
      rw [join_two, ← List.append_assoc]; exact List.drop_left' (by simp)
    refine ⟨?_, ?_⟩
    · rw [count_hit (by simp [sep2]) hi, hd, h1, List.length_cons]; omega
    · rw [List.length_cons, splitK, if_neg ?_, hi, Int.toNat_natCast, hd, h2]
      · congr 1
        rw [join_two]; simp
      · rw [hi, beq_iff_eq]; omega
theorem dec_digs (n : Nat) : ∀ c ∈ decDigits n, isDig c := by
  induction n using Nat.strongRecOn with
  | ind n ih =>
    rw [decDigits]
    split
    · rename_i h
      intro c hc
      simp only [List.mem_singleton] at hc
      subst hc
      exact (dig_of n h).1
    · intro c hc
      rcases List.mem_append.1 hc with hc | hc
      · exact ih (n / 10) (by omega) c hc
      · simp only [List.mem_singleton] at hc
        subst hc
        exact (dig_of (n % 10) (by omega)).1
theorem itoa_no (v : Int) : (44 : UInt8) ∉ itoa v := by
  have hd : ∀ n, (44 : UInt8) ∉ decDigits n := fun n h => by have := dec_digs n 44 h; revert this; decide
  unfold itoa
  split
  · intro h
    rcases List.mem_cons.1 h with h | h
    · revert h; decide
    · exact hd _ h
  · exact hd _
theorem mag_dec (n : Nat) (h : n < 10000000000) : parseMag (decDigits n) = .ok n := by
  have hl := dec_len n 9 (by omega)
  unfold parseMag
  rw [if_neg (decDigits_ne n)]
  exact (parse_val (decDigits n) 0 0 (by omega) (by omega) n).2 (valD_dec n)
theorem atoi_itoa (v : Int) (h1 : -10000000000 < v) (h2 : v < 10000000000) : atoiAll (itoa v) = .ok v := by
  by_cases h : v < 0
  · obtain ⟨n, rfl⟩ : ∃ n : Nat, v = -(n : Int) := ⟨v.natAbs, by omega⟩
    have hp := mag_dec n (by omega)
    rw [itoa, if_pos h, show (-(n : Int)).natAbs = n by omega]
    simp [atoiAll, hp]
    omega
  · obtain ⟨n, rfl⟩ : ∃ n : Nat, v = (n : Int) := ⟨v.toNat, by omega⟩
    have hp := mag_dec n (by omega)
    rw [itoa, if_neg h, Int.toNat_natCast]
    cases hd : decDigits n with
    | nil => exact absurd hd (decDigits_ne _)
    | cons c d =>
      have hdig : isDig c := (head_dec n c (by rw [hd]; rfl)).1
      unfold isDig at hdig
      have n43 : ¬ c.toNat = 43 := by omega
      have n45 : ¬ c.toNat = 45 := by omega
      rw [hd] at hp
      simp only [atoiAll, n43, n45, or_self, if_false, hp]
      simp
      omega
def rgT (n : Nat) : List UInt8 := if n = 31 then [120, 122, 114] else if n = 32 then [115, 112] else 120 :: decDigits n
def stk31 (n : Int) : Nat := if n = 31 then 32 else n.toNat
def dW (i : IR) : Nat := if i.op = 4 ∨ i.op = 5 then stk31 i.d else i.d.toNat
def nW (i : IR) : Nat := if i.op = 4 ∨ i.op = 5 ∨ i.op = 6 ∨ (28 ≤ i.op ∧ i.op ≤ 36) then stk31 i.n else i.n.toNat
def partS (i : IR) (c : UInt8) : List UInt8 :=
  if c = 68 then rgT (dW i) else if c = 78 then rgT (nW i) else if c = 77 then rgT i.m.toNat else if c = 65 then rgT i.a.toNat
  else if c = 73 then 35 :: itoa i.imm else if c = 109 then itoa i.m else itoa i.cond
def restS (i : IR) : List UInt8 := join ((pT i.op).map (partS i)) sep2
def insB (i : IR) : List UInt8 := nm5 i.op ++ (if pT i.op = [] then [] else 32 :: restS i)
def insS (i : IR) : List UInt8 := if okI i then insB i else []
def pI (s : List UInt8) : Int := match atoiAll s with | .ok v => v | .range => atoiSat s | _ => 0
def numV (s : List UInt8) : Int := if s = [120, 122, 114] ∨ s = [115, 112] then 31 else pI (trimPrefix (trimPrefix s [120]) [35])
def setF (i : IR) (c : UInt8) (v : Int) : IR :=
  if c = 68 then { i with d := v } else if c = 78 then { i with n := v } else if c = 77 ∨ c = 109 then { i with m := v } else if c = 65 then { i with a := v }
  else if c = 67 then { i with cond := v } else if c = 73 then { i with imm := v } else i
def readP : List UInt8 → List (List UInt8) → IR → IR
  | [], _, i => i
  | _ :: _, [], i => i
  | c :: cs, s :: ss, i => readP cs ss (setF i c (numV s))
def i0 (op : Int) : IR := ⟨op, 0, 0, 0, 0, 0, 0⟩
def wordS (line : List UInt8) : List UInt8 := (cut line [32]).1
def piecesS (line : List UInt8) : List (List UInt8) := split (cut line [32]).2.1 sep2
def readI (op : Int) (line : List UInt8) : IR := readP (pT op) (piecesS line) (i0 op)
theorem rg_num : ∀ n : Nat, n < 33 → numV (rgT n) = (if n = 32 then 31 else (n : Int)) ∧ (44 : UInt8) ∉ rgT n := by decide +kernel
theorem small_num : ∀ n : Nat, n < 32 → numV (itoa n) = (n : Int) := by decide +kernel
theorem imm_num (v : Int) (h1 : -10000000000 < v) (h2 : v < 10000000000) : numV (35 :: itoa v) = v := by
  have e : trimPrefix (trimPrefix (35 :: itoa v) [120]) [35] = itoa v := by simp [trimPrefix, hasPrefix]
  unfold numV
  rw [if_neg (by simp), e, pI, atoi_itoa v h1 h2]
theorem rg_int (n : Int) (h0 : 0 ≤ n) (h1 : n ≤ 31) : numV (rgT n.toNat) = n ∧ (44 : UInt8) ∉ rgT n.toNat := by
  obtain ⟨a, b⟩ := rg_num n.toNat (by omega)
  rw [a, if_neg (by omega)]
  exact ⟨by omega, b⟩
theorem rg_stk (n : Int) (h0 : 0 ≤ n) (h1 : n ≤ 31) : numV (rgT (stk31 n)) = n ∧ (44 : UInt8) ∉ rgT (stk31 n) ∧ stk31 n < 33 := by
  unfold stk31
  by_cases h : n = 31
  · subst h; exact ⟨by decide +kernel, by decide +kernel, by decide⟩
  · rw [if_neg h]
    exact ⟨(rg_int n h0 h1).1, (rg_int n h0 h1).2, by omega⟩
theorem okI_regs {i : IR} (h : okI i) : (0 ≤ i.d ∧ i.d ≤ 31) ∧ (0 ≤ i.n ∧ i.n ≤ 31) ∧ (0 ≤ i.m ∧ i.m ≤ 31) ∧ (0 ≤ i.a ∧ i.a ≤ 31) ∧ (0 ≤ i.cond ∧ i.cond ≤ 15) ∧ -134217728 ≤ i.imm ∧ i.imm ≤ 134217724 := by
  obtain ⟨h0, h1, h2, h3, h4, h5, h6, _⟩ := h
  refine ⟨⟨h1.1, h1.2.1⟩, ⟨h2.1, h2.2.1⟩, ⟨h3.1, h3.2.1⟩, ⟨h4.1, h4.2.1⟩, ⟨h5.1, h5.2.1⟩, ?_⟩
  unfold okImm at h6
  repeat' split at h6
  all_goals omega
theorem dW_facts {i : IR} (h : okI i) : numV (rgT (dW i)) = i.d ∧ (44 : UInt8) ∉ rgT (dW i) ∧ dW i < 33 := by
  obtain ⟨hd, -⟩ := okI_regs h
  unfold dW
  split
  · exact rg_stk _ hd.1 hd.2
  · exact ⟨(rg_int _ hd.1 hd.2).1, (rg_int _ hd.1 hd.2).2, by omega⟩
theorem nW_facts {i : IR} (h : okI i) : numV (rgT (nW i)) = i.n ∧ (44 : UInt8) ∉ rgT (nW i) ∧ nW i < 33 := by
  obtain ⟨-, hd, -⟩ := okI_regs h
  unfold nW
  split
  · exact rg_stk _ hd.1 hd.2
  · exact ⟨(rg_int _ hd.1 hd.2).1, (rg_int _ hd.1 hd.2).2, by omega⟩
theorem part_no {i : IR} (h : okI i) (c : UInt8) : (44 : UInt8) ∉ partS i c := by
  obtain ⟨hd, hn, hm, ha, hc, hi⟩ := okI_regs h
  unfold partS
  repeat' split
  · exact (dW_facts h).2.1
  · exact (nW_facts h).2.1
  · exact (rg_int _ hm.1 hm.2).2
  · exact (rg_int _ ha.1 ha.2).2
  · intro x
    rcases List.mem_cons.1 x with x | x
    · revert x; decide
    · exact itoa_no _ x
  · exact itoa_no _
  · exact itoa_no _
def fieldV (i : IR) (c : UInt8) : Int := if c = 68 then i.d else if c = 78 then i.n else if c = 77 then i.m else if c = 65 then i.a else if c = 73 then i.imm else if c = 109 then i.m else i.cond
theorem part_num {i : IR} (h : okI i) (c : UInt8) : numV (partS i c) = fieldV i c := by
  obtain ⟨hd, hn, hm, ha, hc, hi⟩ := okI_regs h
  have sm : ∀ v : Int, 0 ≤ v ∧ v ≤ 31 → numV (itoa v) = v := fun v hv => by
    have := small_num v.toNat (by omega)
    rwa [show ((v.toNat : Nat) : Int) = v by omega] at this
  unfold partS fieldV
  repeat' split
  · exact (dW_facts h).1
  · exact (nW_facts h).1
  · exact (rg_int _ hm.1 hm.2).1
  · exact (rg_int _ ha.1 ha.2).1
  · exact imm_num _ (by omega) (by omega)
  · exact sm _ hm
  · exact sm _ ⟨hc.1, by omega⟩
theorem readP_fold {i : IR} (h : okI i) : ∀ (cs : List UInt8) (j : IR), readP cs (cs.map (partS i)) j = cs.foldl (fun j c => setF j c (fieldV i c)) j := by
  intro cs
  induction cs with
  | nil => intro j; rfl
  | cons c cs ih => intro j; rw [List.map_cons, readP, part_num h, ih]; rfl
theorem fold_back {i : IR} (h : okI i) : (pT i.op).foldl (fun j c => setF j c (fieldV i c)) (i0 i.op) = i := by
  obtain ⟨op, d, n, m, a, c, im⟩ := i
  obtain ⟨h0, h1, h2, h3, h4, h5, h6, -⟩ := h
  simp only at h0 h1 h2 h3 h4 h5 h6
  have z1 := h1.2.2
  have z2 := h2.2.2
  have z3 := h3.2.2
  have z4 := h4.2.2
  have z5 := h5.2.2
  clear h1 h2 h3 h4 h5
  rcases op_each h0 with rfl | rfl | rfl | rfl | rfl | rfl | rfl | rfl | rfl | rfl | rfl | rfl | rfl | rfl | rfl | rfl | rfl | rfl | rfl | rfl | rfl | rfl | rfl | rfl | rfl | rfl | rfl | rfl | rfl | rfl | rfl | rfl | rfl | rfl | rfl | rfl | rfl | rfl | rfl | rfl | rfl | rfl | rfl <;>
  · simp [okImm] at h6
    simp [hasB, fb, fbL, Nat.testBit] at z1 z2 z3 z4 z5
    simp [pT, pTT, i0, setF, fieldV, *]
theorem insB_cut (i : IR) (h : okI i) : cut (insB i) [32] = if pT i.op = [] then (nm5 i.op, [], false) else (nm5 i.op, restS i, true) := by
  have hf := nm_facts i.op.toNat (by have := h.1; omega)
  have h32 : (32 : UInt8) ∉ nm5 i.op := hf.2.2
  unfold insB
  split
  · rw [List.append_nil, cut, index_nowhere _ 32 [] h32]; rfl
  · have hi := index_behind (nm5 i.op) (restS i) 32 [] h32
    rw [show nm5 i.op ++ 32 :: restS i = nm5 i.op ++ (32 :: [] ++ restS i) from rfl, cut, hi, if_pos (by omega)]
    simp
theorem pieces_back (i : IR) (h : okI i) : piecesS (insB i) = if pT i.op = [] then [[]] else (pT i.op).map (partS i) := by
  unfold piecesS
  rw [insB_cut i h]
  by_cases hp : pT i.op = []
  · rw [if_pos hp, if_pos hp]
    show split [] sep2 = [[]]
    decide +kernel
  · rw [if_neg hp, if_neg hp]
    show split (restS i) sep2 = _
    unfold restS
    cases hp2 : pT i.op with
    | nil => exact absurd hp2 hp
    | cons c cs =>
      rw [List.map_cons]
      obtain ⟨e1, e2⟩ := split_join (cs.map (partS i)) (partS i c) (fun x hx => by
        rw [← List.map_cons] at hx
        obtain ⟨c', -, rfl⟩ := List.mem_map.1 hx
        exact part_no h c')
      rw [split, e1, e2]
theorem word_back (i : IR) (h : okI i) : wordS (insB i) = nm5 i.op := by
  unfold wordS
  rw [insB_cut i h]
  split <;> rfl
theorem read_back (i : IR) (h : okI i) : readI i.op (insB i) = i := by
  unfold readI
  rw [pieces_back i h]
  by_cases hp : pT i.op = []
  · have := fold_back h
    rw [if_pos hp]
    rw [hp] at this ⊢
    exact this
  · rw [if_neg hp, readP_fold h, fold_back h]
theorem nm5_inj {a b : Int} (ha : 0 ≤ a ∧ a ≤ 42) (hb : 0 ≤ b ∧ b ≤ 42) (h : nm5 a = nm5 b) : a = b := by
  have := nm_inj a.toNat (by omega) b.toNat (by omega) h
  omega
theorem insB_inj {i j : IR} (hi : okI i) (hj : okI j) (h : insB i = insB j) : i = j := by
  have e : i.op = j.op := nm5_inj hi.1 hj.1 (by rw [← word_back i hi, ← word_back j hj, h])
  rw [← read_back i hi, ← read_back j hj, h, e]
theorem insB_ne (i : IR) (h : okI i) : insB i ≠ [] := by
  have hf := nm_facts i.op.toNat (by have := h.1; omega)
  have h1 : nm5 i.op ≠ [] := hf.1
  intro e
  exact h1 (List.append_eq_nil_iff.1 e).1
end Go.Proofs.YtkphijabhoppnaaGreatDoor
