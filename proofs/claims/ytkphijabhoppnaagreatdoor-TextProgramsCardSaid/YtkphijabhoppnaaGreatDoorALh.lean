/- The reference's readers of a line. -/
import Derived.Test.YtkphijabhoppnaaGreatDoorALg
import Derived.Test.YtkphijabhoppnaaGreatDoorALk
namespace Go.Proofs.YtkphijabhoppnaaGreatDoor
open Go.RowKit Go.Proofs.YtkphijabhoppnaaGreatDoorW.PrintWords Go.Proofs.YtkphijabhoppnaaGreatDoorW.PrintLast Go.Proofs.YtkphijabhoppnaaGreatDoorW.PrintMore
open Go.Proofs.YtkphijabhoppnaaGreatDoor.PTextPrograms Go.Lib
set_option linter.unusedSimpArgs false
set_option linter.unusedVariables false
theorem tl_loop (bs : ByteArray) : ∀ (d i : Nat) (r : List UInt8), bs.size - i = d → ByteArray.toList.loop bs i r = r.reverse ++ bs.data.toList.drop i := by
  intro d
  induction d with
  | zero =>
    intro i r h
    unfold ByteArray.toList.loop
    rw [if_neg (by omega), List.drop_eq_nil_of_le (by simp; show bs.size ≤ i; omega), List.append_nil]
  | succ d ih =>
    intro i r h
    unfold ByteArray.toList.loop
    have hi : i < bs.size := by omega
    rw [if_pos hi, ih (i + 1) _ (by omega)]
    have h2 : i < bs.data.toList.length := by simpa using hi
    rw [List.drop_eq_getElem_cons h2]
    have : bs.get! i = bs.data.toList[i] := by
      simp [ByteArray.get!, getElem!_pos, hi]
    simp [this]
theorem tl_any (bs : ByteArray) : bs.toList = bs.data.toList := by
  unfold ByteArray.toList
  rw [tl_loop bs _ 0 [] rfl]; simp
theorem tl_mk (l : List UInt8) : (⟨l.toArray⟩ : ByteArray).toList = l := by rw [tl_any]
theorem ba_ext (s : List UInt8) (a b : Nat) : (⟨s.toArray⟩ : ByteArray).extract a b = ⟨((s.drop a).take (b - a)).toArray⟩ := by
  apply ByteArray.ext
  apply Array.ext'
  simp [List.extract_eq_take_drop]
def spl : Bool → List UInt8 → List UInt8 → List (List UInt8)
  | _, acc, [] => [acc]
  | true, acc, _ :: r => spl false acc r
  | false, acc, c :: r => if c = 44 ∧ r.head? = some 32 then acc :: spl true [] r else spl false (acc ++ [c]) r
theorem spl_past (p : List UInt8) (h : (44 : UInt8) ∉ p) : ∀ (acc r : List UInt8), spl false acc (p ++ r) = spl false (acc ++ p) r := by
  induction p with
  | nil => intro acc r; simp
  | cons c p ih =>
    intro acc r
    have hc : c ≠ 44 := fun e => h (by rw [e]; exact List.mem_cons_self)
    rw [List.cons_append, spl, if_neg (fun x => hc x.1), ih (fun x => h (List.mem_cons_of_mem _ x))]
    simp
theorem spl_join : ∀ (r : List (List UInt8)) (p : List UInt8), (∀ x ∈ p :: r, (44 : UInt8) ∉ x) → spl false [] (join (p :: r) sep2) = p :: r := by
  intro r
  induction r with
  | nil =>
    intro p h
    have := spl_past p (h p (by simp)) [] []
    rw [List.append_nil, List.nil_append] at this
    rw [join_one, this]; rfl
  | cons q r ih =>
    intro p h
    rw [join_two, spl_past p (h p (by simp)), List.nil_append]
    show spl false p (44 :: 32 :: join (q :: r) sep2) = _
    rw [spl, if_pos ⟨rfl, rfl⟩, spl, ih q (fun x hx => h x (List.mem_cons_of_mem _ hx))]
theorem take_more (s : List UInt8) (t i : Nat) (h : t ≤ i) (hi : i < s.length) : (s.drop t).take (i + 1 - t) = (s.drop t).take (i - t) ++ [s[i]'hi] := by
  rw [show i + 1 - t = (i - t) + 1 by omega, List.take_add_one]
  congr 1
  rw [List.getElem?_drop, show t + (i - t) = i by omega, List.getElem?_eq_getElem hi]; rfl
theorem split_l0 (s : List UInt8) (hs : s.length ≤ 100000) : ∀ (m i : Nat) (sk : Bool) (t : Nat) (out : List ByteArray) (k : Nat), i + m = s.length → (sk = false → t ≤ i) → (sk = true → t = i + 1 ∧ s[i]? = some 32) → out.length ≤ i →
    ∃ l, brazierref5_split.l0 (k + m + 1) ⟨s.toArray⟩ out (t : Int) (i : Int) = some (out ++ l) ∧ l.map (·.data.toList) = spl sk (if sk then [] else (s.drop t).take (i - t)) (s.drop i) := by
  intro m
  induction m with
  | zero =>
    intro i sk t out k hi h1 h2 ho
    cases sk with
    | true =>
      have := (h2 rfl).2
      rw [List.getElem?_eq_none (by omega)] at this; cases this
    | false =>
      have hw : wrap64 ((i : Int) + 1) = ((i + 1 : Nat) : Int) := by unfold wrap64; omega
      have ht := h1 rfl
      refine ⟨[(⟨s.toArray⟩ : ByteArray).extract ((t : Int)).toNat (⟨s.toArray⟩ : ByteArray).size], ?_, ?_⟩
      · rw [brazierref5_split.l0, hw, if_neg (by rw [ba_sz]; omega), if_pos (by omega), if_pos (by rw [ba_sz]; omega), if_pos (by omega)]
      · rw [List.drop_of_length_le (i := i) (by omega), Int.toNat_natCast, ba_ext, ba_sz, ← hi]
        simp [spl]
  | succ m ih =>
    intro i sk t out k hi h1 h2 ho
    have hil : i < s.length := by omega
    have hw : wrap64 ((i : Int) + 1) = ((i + 1 : Nat) : Int) := by unfold wrap64; omega
    have hw2 : wrap64 ((i : Int) + 2) = ((i + 2 : Nat) : Int) := by unfold wrap64; omega
    have hdr : s.drop i = s[i]'hil :: s.drop (i + 1) := List.drop_eq_getElem_cons hil
    cases m with
    | zero =>
      refine ⟨[(⟨s.toArray⟩ : ByteArray).extract ((t : Int)).toNat (⟨s.toArray⟩ : ByteArray).size], ?_, ?_⟩
      · have : t ≤ i + 1 := by cases sk with
          | true => have := (h2 rfl).1; omega
          | false => have := h1 rfl; omega
        rw [brazierref5_split.l0, hw, if_neg (by rw [ba_sz]; omega), if_pos (by omega), if_pos (by rw [ba_sz]; omega), if_pos (by omega)]
      · rw [hdr, List.drop_of_length_le (i := i + 1) (by omega), Int.toNat_natCast, ba_ext, ba_sz, ← hi]
        cases sk with
        | true =>
          have := (h2 rfl).1
          rw [this]
          simp [spl]
        | false =>
          have := h1 rfl
          rw [spl, if_neg (by simp), spl]
          simp only [List.map_cons, List.map_nil, Bool.false_eq_true, if_false]
          rw [← take_more s t i this hil]
    | succ m =>
      have hi1 : i + 1 < s.length := by omega
      have hdr1 : s.drop (i + 1) = s[i + 1]'hi1 :: s.drop (i + 1 + 1) := List.drop_eq_getElem_cons hi1
      rw [brazierref5_split.l0, hw, if_pos (by rw [ba_sz]; omega), if_pos (by omega), if_pos (by rw [ba_sz]; omega), bt_at s i hil, if_pos (show (0 : Int) ≤ ((i + 1 : Nat) : Int) by omega), bt_at s (i + 1) hi1]
      cases sk with
      | true =>
        obtain ⟨e1, e2⟩ := h2 rfl
        rw [List.getElem?_eq_getElem hil] at e2
        have e2 := Option.some.inj e2
        subst e1
        obtain ⟨l, hl, hm⟩ := ih (i + 1) false (i + 1) out k (by omega) (fun _ => Nat.le_refl _) (fun x => by cases x) (by omega)
        refine ⟨l, ?_, ?_⟩
        · rw [e2, if_neg (by decide), show k + (m + 1 + 1) = k + (m + 1) + 1 by omega]; exact hl
        · rw [hm, hdr]; simp [spl]
      | false =>
        have ht := h1 rfl
        by_cases hc : s[i]'hil = 44 ∧ s[i + 1]'hi1 = 32
        · obtain ⟨l, hl, hm⟩ := ih (i + 1) true (i + 2) (out ++ [(⟨s.toArray⟩ : ByteArray).extract ((t : Int)).toNat ((i : Int)).toNat]) k (by omega) (fun x => by cases x) (fun _ => ⟨rfl, by rw [List.getElem?_eq_getElem hi1, hc.2]⟩) (by simp; omega)
          refine ⟨(⟨s.toArray⟩ : ByteArray).extract ((t : Int)).toNat ((i : Int)).toNat :: l, ?_, ?_⟩
          · rw [hc.1, hc.2, if_pos (by decide), if_pos (by decide), if_pos (by omega), if_pos (by omega), if_pos (by rw [ba_sz]; omega), if_pos (by omega), hw2, show k + (m + 1 + 1) = k + (m + 1) + 1 by omega, hl]
            simp
          · simp only [Bool.false_eq_true, if_false, if_true] at hm ⊢
            rw [List.map_cons, hm, hdr, spl, if_pos ⟨hc.1, by rw [hdr1]; simp [hc.2]⟩, Int.toNat_natCast, Int.toNat_natCast, ba_ext]
        · obtain ⟨l, hl, hm⟩ := ih (i + 1) false t out k (by omega) (fun _ => by omega) (fun x => by cases x) (by omega)
          refine ⟨l, ?_, ?_⟩
          · rw [show k + (m + 1 + 1) = k + (m + 1) + 1 by omega]
            by_cases h44 : s[i]'hil = 44
            · have h32 : ¬ s[i + 1]'hi1 = 32 := fun x => hc ⟨h44, x⟩
              have hn : ¬ (((s[i + 1]'hi1).toNat : Nat) : Int) = 32 := fun x => h32 (UInt8.toNat_inj.1 (by have : ((32 : UInt8).toNat) = 32 := rfl; omega))
              rw [if_neg hn, ite_self]; exact hl
            · have hn : ¬ (((s[i]'hil).toNat : Nat) : Int) = 44 := fun x => h44 (UInt8.toNat_inj.1 (by have : ((44 : UInt8).toNat) = 44 := rfl; omega))
              rw [if_neg hn]; exact hl
          · simp only [Bool.false_eq_true, if_false] at hm ⊢
            rw [hm, hdr, spl, if_neg (fun x => hc ⟨x.1, by have := x.2; rw [hdr1, List.head?_cons] at this; exact Option.some.inj this⟩), take_more s t i ht hil]
theorem split_ref (s : List UInt8) (hs : s.length ≤ 100000) (k : Nat) : ∃ l, brazierref5_split.f (k + s.length + 1) ⟨s.toArray⟩ = some l ∧ l.map (·.data.toList) = spl false [] s := by
  obtain ⟨l, h1, h2⟩ := split_l0 s hs s.length 0 false 0 [] k (by omega) (fun _ => Nat.le_refl _) (fun x => by cases x) (by simp)
  exact ⟨l, by rw [brazierref5_split.f]; simpa using h1, by simpa using h2⟩
def numR (s : List UInt8) : Option Int :=
  if dropMinus s = [] ∨ 10 < (dropMinus s).length then none else (valD 0 (dropMinus s)).map fun (n : Nat) => if s.head? = some 45 then -(n : Int) else (n : Int)
def retR (o : Option Int) : Int × Bool := match o with | some v => (v, true) | none => (0, false)
theorem num_l0 (s : List UInt8) (hs : s.length ≤ 10) (neg : Bool) : ∀ (m j v k : Nat), j + m = s.length → v < 10 ^ j →
    brazierref5_number.l0 (k + m + 1) ⟨s.toArray⟩ neg (v : Int) (j : Int) = some (retR ((valD v (s.drop j)).map fun (n : Nat) => if neg then -(n : Int) else (n : Int))) := by
  intro m
  induction m with
  | zero =>
    intro j v k hj hv
    have hp : 10 ^ j ≤ 10 ^ 10 := Nat.pow_le_pow_right (by omega) (by omega)
    rw [brazierref5_number.l0, if_neg (by rw [ba_sz]; omega), List.drop_of_length_le (by omega)]
    have hw : wrap64 (-(v : Int)) = -(v : Int) := by unfold wrap64; omega
    cases neg <;> simp [valD, retR, hw]
  | succ m ih =>
    intro j v k hj hv
    have hjl : j < s.length := by omega
    have hp : 10 ^ j ≤ 10 ^ 9 := Nat.pow_le_pow_right (by omega) (by omega)
    have hw : wrap64 ((j : Int) + 1) = ((j + 1 : Nat) : Int) := by unfold wrap64; omega
    rw [brazierref5_number.l0, if_pos (by rw [ba_sz]; omega), if_pos (by omega), bt_at s j hjl, List.drop_eq_getElem_cons hjl, valD]
    obtain ⟨c, hc⟩ : ∃ c, s[j]'hjl = c := ⟨_, rfl⟩
    rw [hc]
    by_cases h1 : ((c.toNat : Nat) : Int) < 48
    · rw [if_pos h1, if_neg (fun x : isDig c => by have := x.1; omega)]; rfl
    · by_cases h2 : ((c.toNat : Nat) : Int) > 57
      · rw [if_neg h1, if_pos h2, if_neg (fun x : isDig c => by have := x.2; omega)]; rfl
      · have hd : isDig c := ⟨by omega, by omega⟩
        have hv2 : wrap64 (wrap64 (10 * (v : Int)) + ((((c.toNat : Nat) : Int)) - 48) % 256) = ((v * 10 + (c.toNat - 48) : Nat) : Int) := by
          have e1 : wrap64 (10 * (v : Int)) = 10 * v := by unfold wrap64; omega
          have e2 : ((((c.toNat : Nat) : Int)) - 48) % 256 = ((c.toNat - 48 : Nat) : Int) := by omega
          rw [e1, e2]
          unfold wrap64; omega
        rw [if_neg h1, if_neg h2, if_pos hd, hv2, hw, show k + (m + 1) = k + m + 1 by omega]
        exact ih (j + 1) _ k (by omega) (by rw [Nat.pow_succ]; have := hd.2; omega)
theorem num_ref (s : List UInt8) (hs : s.length ≤ 100000) (k : Nat) : brazierref5_number.f (k + 20) ⟨s.toArray⟩ = some (retR (numR s)) := by
  have key : ∀ (d : List UInt8) (neg : Bool) (k : Nat), d.length ≤ 100000 → brazierref5_number.j1 (k + 15) ⟨d.toArray⟩ neg = some (retR (if d = [] ∨ 10 < d.length then none else (valD 0 d).map fun (n : Nat) => if neg then -(n : Int) else (n : Int))) := by
    intro d neg k hd
    rw [brazierref5_number.j1, tl_mk]
    by_cases h0 : d = []
    · rw [if_pos h0, brazierref5_number.j2, if_pos rfl, if_pos (Or.inl h0)]; rfl
    · rw [if_neg h0, ba_sz]
      by_cases h1 : 10 < d.length
      · rw [decide_eq_true (by omega), brazierref5_number.j2, if_pos rfl, if_pos (Or.inr h1)]; rfl
      · rw [decide_eq_false (by omega), brazierref5_number.j2, if_neg (by simp), if_neg (fun x => x.elim h0 h1)]
        have := num_l0 d (by omega) neg d.length 0 0 (k + 12 - d.length) (by omega) (by omega)
        rw [show k + 12 - d.length + d.length + 1 = k + 13 by omega] at this
        exact this
  rw [brazierref5_number.f, tl_mk]
  cases s with
  | nil => rw [if_pos rfl, show k + 20 = k + 4 + 15 + 1 by omega, brazierref5_number.j0, if_neg (by simp), key [] false _ (by simp)]; rfl
  | cons c r =>
    have hb := bt_at (c :: r) 0 (by simp)
    rw [show (((0 : Nat) : Int)) = 0 from rfl, List.getElem_cons_zero] at hb
    rw [if_neg (by simp), if_pos (by rw [ba_sz]; simp), hb, show k + 20 = k + 4 + 15 + 1 by omega, brazierref5_number.j0]
    by_cases hc : c = 45
    · subst hc
      rw [if_pos (by decide), if_pos (by rw [ba_sz]; simp; omega), show ((((45 : UInt8).toNat : Nat) : Int) == 45) = true from rfl, ba_ext, ba_sz, List.drop_one, List.tail_cons, List.length_cons,
        List.take_of_length_le (by omega), key r true _ (by simp at hs; omega)]
      rfl
    · have hb2 : (((c.toNat : Nat) : Int) == 45) = false := by
        rw [beq_eq_false_iff_ne]
        intro x
        exact hc (UInt8.toNat_inj.1 (by have : ((45 : UInt8).toNat) = 45 := rfl; omega))
      rw [hb2, if_neg (by simp), key (c :: r) false _ hs, numR, dropMinus, if_neg hc]
      simp [hc]
theorem numR_itoa (v : Int) (h1 : -10000000000 < v) (h2 : v < 10000000000) : numR (itoa v) = some v := by
  unfold itoa
  by_cases h : v < 0
  · have hl := dec_len v.natAbs 9 (by omega)
    rw [if_pos h, numR]
    simp only [dropMinus, if_true]
    rw [if_neg (fun x => x.elim (decDigits_ne _) (by omega)), valD_dec]
    simp
    omega
  · have hl := dec_len v.toNat 9 (by omega)
    rw [if_neg h]
    cases hd : decDigits v.toNat with
    | nil => exact absurd hd (decDigits_ne _)
    | cons c d =>
      have hdig : isDig c := (head_dec v.toNat c (by rw [hd]; rfl)).1
      unfold isDig at hdig
      have hc : c ≠ 45 := by rintro rfl; revert hdig; decide
      rw [hd] at hl
      rw [numR, dropMinus, if_neg hc, if_neg (fun x => x.elim (by simp) (by omega)), ← hd, valD_dec, hd]
      simp [hc]
      omega
theorem reg_any (s : List UInt8) (hs : s.length ≤ 100000) (k : Nat) : ∃ v b, brazierref5_readReg.f (k + 22) ⟨s.toArray⟩ = some (v, b) := by
  have key : ∀ b k, ∃ v b', brazierref5_readReg.j0 (k + 22) ⟨s.toArray⟩ b = some (v, b') := by
    intro b k
    rw [brazierref5_readReg.j0]
    cases b with
    | true => exact ⟨_, _, by rw [if_pos rfl]⟩
    | false =>
      rw [if_neg (by simp), ba_sz]
      by_cases h1 : (s.length : Int) < 2
      · exact ⟨_, _, by rw [if_pos h1]⟩
      · by_cases h2 : (s.length : Int) > 3
        · exact ⟨_, _, by rw [if_neg h1, if_pos h2]⟩
        · rw [if_neg h1, if_neg h2, if_pos (by omega)]
          split
          · rw [if_pos (by omega), ba_ext, show k + 21 = (k + 1) + 20 by omega, num_ref _ (by simp; omega), Option.bind_some]
            split
            · split
              · exact ⟨_, _, rfl⟩
              · exact ⟨_, _, rfl⟩
            · exact ⟨_, _, rfl⟩
          · exact ⟨_, _, rfl⟩
  rw [brazierref5_readReg.f]
  split
  · exact key _ k
  · exact key _ k
theorem reg_text (n : Nat) (h : n < 33) (k : Nat) : brazierref5_readReg.f (k + 22) ⟨(rgT n).toArray⟩ = some (if n = 32 then 31 else (n : Int), true) := by
  rw [brazierref5_readReg.f, tl_mk]
  by_cases h1 : n = 31
  · subst h1
    rw [if_neg (by decide), show (rgT 31 == ([120, 122, 114] : List UInt8)) = true by decide, brazierref5_readReg.j0, if_pos rfl, if_neg (by decide)]; rfl
  · by_cases h2 : n = 32
    · subst h2
      rw [if_pos (by decide), brazierref5_readReg.j0, if_pos rfl, if_pos rfl]
    · have hl := dec_len n 1 (by omega)
      have hl1 : 1 ≤ (decDigits n).length := List.length_pos_iff.2 (decDigits_ne n)
      have e : rgT n = 120 :: decDigits n := by rw [rgT, if_neg h1, if_neg h2]
      have hd := dec_digs n
      have n1 : ¬ rgT n = ([115, 112] : List UInt8) := by rw [e]; simp
      have n2 : (rgT n == ([120, 122, 114] : List UInt8)) = false := by
        rw [e, beq_eq_false_iff_ne]
        intro x
        have x2 := List.tail_eq_of_cons_eq x
        have := hd 122 (by rw [x2]; simp)
        revert this; decide
      have hb := bt_at (rgT n) 0 (by rw [e]; simp)
      rw [show (((0 : Nat) : Int)) = 0 from rfl] at hb
      have hz : (rgT n).length = (decDigits n).length + 1 := by rw [e]; simp
      rw [if_neg n1, n2, brazierref5_readReg.j0, if_neg (by simp), ba_sz, if_neg (by omega), if_neg (by omega), if_pos (by omega), hb, if_pos (by simp [e]), if_pos (by omega), ba_ext]
      have ed : ((rgT n).drop 1).take ((rgT n).length - 1) = itoa (n : Int) := by
        rw [e, List.drop_one, List.tail_cons, List.length_cons, List.take_of_length_le (by omega), itoa, if_neg (by omega), Int.toNat_natCast]
      rw [ed, show k + 21 = (k + 1) + 20 by omega, num_ref _ (by have := itoa_len (n : Int) (by omega) (by omega); omega), numR_itoa _ (by omega) (by omega), Option.bind_some]
      show (if true = true then (if (n : Int) ≥ 0 then some ((n : Int), decide ((n : Int) ≤ 30)) else some ((n : Int), false)) else some ((n : Int), false)) = _
      rw [if_pos rfl, if_pos (by omega), if_neg h2, decide_eq_true (by omega)]
def setR (j : IR) (c : UInt8) (v : Int) : IR :=
  if c = 100 ∨ c = 68 then { j with d := v } else if c = 110 ∨ c = 78 then { j with n := v } else if c = 109 ∨ c = 107 then { j with m := v } else if c = 97 then { j with a := v }
  else if c = 105 then { j with imm := v } else { j with cond := v }
def fieldR (i : IR) (c : UInt8) : Int :=
  if c = 100 ∨ c = 68 then i.d else if c = 110 ∨ c = 78 then i.n else if c = 109 ∨ c = 107 then i.m else if c = 97 then i.a else if c = 105 then i.imm else i.cond
def tupI (j : IR) (b : Bool) : Int × Int × Int × Int × Int × Int × Int × Bool := (j.op, j.d, j.n, j.m, j.a, j.cond, j.imm, b)
theorem part_any (j : IR) (c : Int) (s : List UInt8) (hs : s.length ≤ 100000) (k : Nat) : ∃ (j' : IR) (b : Bool), brazierref5_part.f (k + 30) j.op j.d j.n j.m j.a j.cond j.imm c ⟨s.toArray⟩ = some (tupI j' b) ∧ j'.op = j.op := by
  obtain ⟨op, d, n, m, a, co, im⟩ := j
  dsimp only
  obtain ⟨rv, rb, hr⟩ := reg_any s hs (k + 8)
  have hn : ∀ t : List UInt8, t.length ≤ 100000 → brazierref5_number.f (k + 30) ⟨t.toArray⟩ = some (retR (numR t)) := fun t ht => by
    have := num_ref t ht (k + 10); rwa [show k + 10 + 20 = k + 30 by omega] at this
  have j1 : ∀ (v : Int) (b : Bool) (x : Int) (y : Bool) (k : Nat), ∃ (j' : IR) (b' : Bool), brazierref5_part.j1 (k + 1) v b x y op d n m a co im = some (tupI j' b') ∧ j'.op = op := by
    intro v b x y k
    rw [brazierref5_part.j1]
    split
    · exact ⟨⟨op, d, v, m, a, co, im⟩, b, rfl, rfl⟩
    · split
      · exact ⟨⟨op, d, n, v, a, co, im⟩, b, rfl, rfl⟩
      · split
        · exact ⟨⟨op, d, n, m, v, co, im⟩, b, rfl, rfl⟩
        · exact ⟨⟨op, d, n, m, a, co, im⟩, b, rfl, rfl⟩
  have j0 : ∀ (v : Int) (b : Bool) (x : Int) (y : Bool) (k : Nat), ∃ (j' : IR) (b' : Bool), brazierref5_part.j0 (k + 2) v b x y op d n m a co im = some (tupI j' b') ∧ j'.op = op := by
    intro v b x y k
    rw [brazierref5_part.j0]
    split
    · exact ⟨⟨op, v, n, m, a, co, im⟩, b, rfl, rfl⟩
    · split
      · exact j1 _ _ _ _ _
      · exact j1 _ _ _ _ _
  rw [brazierref5_part.f, tl_mk]
  split
  · split
    · exact ⟨⟨op, d, n, m, a, co, im⟩, false, rfl, rfl⟩
    · rename_i hne
      have hl : 0 < s.length := List.length_pos_iff.2 hne
      rw [if_pos (by rw [ba_sz]; omega)]
      split
      · rw [if_pos (by rw [ba_sz]; omega), ba_ext, hn _ (by simp; omega), Option.bind_some]
        exact ⟨⟨op, d, n, m, a, co, _⟩, _, rfl, rfl⟩
      · exact ⟨⟨op, d, n, m, a, co, im⟩, false, rfl, rfl⟩
  · split
    · rw [hn _ hs, Option.bind_some]
      exact ⟨⟨op, d, n, _, a, co, im⟩, _, rfl, rfl⟩
    · split
      · rw [hn _ hs, Option.bind_some]
        exact ⟨⟨op, d, n, m, a, _, im⟩, _, rfl, rfl⟩
      · rw [show k + 30 = k + 8 + 22 by omega, hr, Option.bind_some]
        split
        · exact j0 _ _ _ _ (k + 28)
        · exact j0 _ _ _ _ (k + 28)
theorem part_text (i j : IR) (h : okI i) (c : UInt8) (hc : c ∈ lettersR) (k : Nat) :
    brazierref5_part.f (k + 30) j.op j.d j.n j.m j.a j.cond j.imm ((c.toNat : Nat) : Int) ⟨(partRf i c).toArray⟩ = some (tupI (setR j c (fieldR i c)) true) := by
  obtain ⟨hd, hn, hm, ha, hco, hi⟩ := okI_regs h
  have rg : ∀ v : Int, 0 ≤ v ∧ v ≤ 31 → brazierref5_readReg.f (k + 30) ⟨(rgT v.toNat).toArray⟩ = some (v, true) := fun v hv => by
    have := reg_text v.toNat (by omega) (k + 8)
    rw [if_neg (by omega), show ((v.toNat : Nat) : Int) = v by omega] at this
    rwa [show k + 8 + 22 = k + 30 by omega] at this
  have rs : ∀ v : Int, 0 ≤ v ∧ v ≤ 31 → brazierref5_readReg.f (k + 30) ⟨(rgT (stk31 v)).toArray⟩ = some (v, true) := fun v hv => by
    by_cases hv31 : v = 31
    · have := reg_text 32 (by omega) (k + 8)
      rw [hv31]
      exact this
    · rw [stk31, if_neg hv31]; exact rg v hv
  have nm : ∀ v : Int, -134217728 ≤ v → v ≤ 134217724 → brazierref5_number.f (k + 30) ⟨(itoa v).toArray⟩ = some (v, true) := fun v h1 h2 => by
    have := num_ref (itoa v) (by have := itoa_len v (by omega) (by omega); omega) (k + 10)
    rw [numR_itoa v (by omega) (by omega)] at this
    rwa [show k + 10 + 20 = k + 30 by omega] at this
  simp only [lettersR, List.mem_cons, List.not_mem_nil, or_false] at hc
  obtain ⟨op, d, n, m, a, co, im⟩ := j
  rcases hc with rfl | rfl | rfl | rfl | rfl | rfl | rfl | rfl | rfl
  · rw [brazierref5_part.f, if_neg (by decide), if_neg (by decide), if_neg (by decide), show partRf i 100 = rgT i.d.toNat from rfl, rg _ hd]; rfl
  · rw [brazierref5_part.f, if_neg (by decide), if_neg (by decide), if_neg (by decide), show partRf i 68 = rgT (stk31 i.d) from rfl, rs _ hd]; rfl
  · rw [brazierref5_part.f, if_neg (by decide), if_neg (by decide), if_neg (by decide), show partRf i 110 = rgT i.n.toNat from rfl, rg _ hn]; rfl
  · rw [brazierref5_part.f, if_neg (by decide), if_neg (by decide), if_neg (by decide), show partRf i 78 = rgT (stk31 i.n) from rfl, rs _ hn]; rfl
  · rw [brazierref5_part.f, if_neg (by decide), if_neg (by decide), if_neg (by decide), show partRf i 109 = rgT i.m.toNat from rfl, rg _ hm]; rfl
  · rw [brazierref5_part.f, if_neg (by decide), if_neg (by decide), if_neg (by decide), show partRf i 97 = rgT i.a.toNat from rfl, rg _ ha]; rfl
  · have e : partRf i 105 = 35 :: itoa i.imm := rfl
    have hb := bt_at (35 :: itoa i.imm) 0 (by simp)
    rw [show (((0 : Nat) : Int)) = 0 from rfl, List.getElem_cons_zero] at hb
    rw [brazierref5_part.f, if_pos (by decide), e, tl_mk, if_neg (by simp), if_pos (by rw [ba_sz]; simp), hb, if_pos (by decide), if_pos (by rw [ba_sz]; simp; omega), ba_ext, ba_sz, List.drop_one, List.tail_cons, List.length_cons,
      List.take_of_length_le (by omega), nm _ hi.1 hi.2]
    rfl
  · rw [brazierref5_part.f, if_neg (by decide), if_pos (by decide), show partRf i 107 = itoa i.m from rfl, nm _ (by omega) (by omega)]; rfl
  · rw [brazierref5_part.f, if_neg (by decide), if_neg (by decide), if_pos (by decide), show partRf i 99 = itoa i.cond from rfl, nm _ (by omega) (by omega)]; rfl
theorem foldR_back {i : IR} (h : okI i) : (pR i.op).foldl (fun j c => setR j c (fieldR i c)) (i0 i.op) = i := by
  obtain ⟨op, d, n, m, a, c, im⟩ := i
  obtain ⟨h0, h1, h2, h3, h4, h5, h6, -⟩ := h
  simp only at h0 h1 h2 h3 h4 h5 h6
  have z1 := h1.2.2
  have z2 := h2.2.2
  have z3 := h3.2.2
  have z4 := h4.2.2
  have z5 := h5.2.2
  clear h1 h2 h3 h4 h5
  rcases op_each h0 with rfl | rfl | rfl | rfl | rfl | rfl | rfl | rfl | rfl | rfl | rfl | rfl | rfl | rfl | rfl | rfl | rfl | rfl | rfl | rfl | rfl | rfl | rfl | rfl | rfl | rfl | rfl | rfl | rfl | rfl | rfl | rfl | rfl | rfl | rfl | rfl | rfl | rfl | rfl | rfl | rfl | rfl | rfl <;>
  · simp [okImm] at h6
    simp [hasB, fb, fbL, Nat.testBit] at z1 z2 z3 z4 z5
    simp [pR, pRT, i0, setR, fieldR, *]
theorem ba_eta (x : ByteArray) : x = ⟨x.data.toList.toArray⟩ := by apply ByteArray.ext; simp
theorem spl_len : ∀ (s : List UInt8) (sk : Bool) (acc : List UInt8), ∀ x ∈ spl sk acc s, x.length ≤ acc.length + s.length := by
  intro s
  induction s with
  | nil => intro sk acc x hx; cases sk <;> simp [spl] at hx <;> subst hx <;> omega
  | cons c s ih =>
    intro sk acc x hx
    cases sk with
    | true =>
      have := ih false acc x (by simpa [spl] using hx)
      simp; omega
    | false =>
      rw [spl] at hx
      split at hx
      · rcases List.mem_cons.1 hx with rfl | hx
        · omega
        · have := ih true [] x hx
          simp at this ⊢; omega
      · have := ih false (acc ++ [c]) x hx
        simp at this ⊢; omega
theorem nil_ok : ∀ a : Nat, a < 43 → pRT.getD a [] = [] → okI (i0 a) := by decide +kernel
theorem of_l0_any (line p : List UInt8) (l : List ByteArray) (hl : l.length = p.length) (hp4 : p.length ≤ 4) (hsz : ∀ x ∈ l, x.size ≤ 100000) : ∀ (m t : Nat) (j : IR) (k : Nat), t + m = p.length →
    ∃ (j' : IR) (b : Bool), brazierref5_of.l0 (k + m + 120) ⟨line.toArray⟩ ⟨p.toArray⟩ l (t : Int) j.op j.d j.n j.m j.a j.cond j.imm = some (tupI j' b) ∧ j'.op = j.op ∧ (b = true → insS j' = line) := by
  intro m
  induction m with
  | zero =>
    intro t j k ht
    rw [brazierref5_of.l0, if_neg (by rw [ba_sz]; omega), show k + 0 + 119 = (k + 39) + 80 by omega, ref_ins, Option.bind_some, tl_mk, tl_mk]
    exact ⟨j, _, rfl, rfl, fun h => by simpa using h⟩
  | succ m ih =>
    intro t j k ht
    have htl : t < l.length := by omega
    have hw : wrap64 ((t : Int) + 1) = ((t + 1 : Nat) : Int) := by unfold wrap64; omega
    obtain ⟨j2, b2, h1, h2⟩ := part_any j (bt ⟨p.toArray⟩ (t : Int)) (l[t]'htl).data.toList (by have := hsz _ (List.getElem_mem htl); rw [Array.length_toList]; exact this) (k + m + 90)
    have hr : rdOf ByteArray.empty l (t : Int) = ⟨(l[t]'htl).data.toList.toArray⟩ := by
      unfold rdOf
      rw [Int.toNat_natCast, List.getD_eq_getElem?_getD, List.getElem?_eq_getElem htl, Option.getD_some, ← ba_eta]
    rw [show k + (m + 1) + 120 = (k + m + 90 + 30) + 1 by omega, brazierref5_of.l0, if_pos (by rw [ba_sz]; omega), if_pos (by omega), if_pos (by omega), hr, h1, Option.bind_some]
    cases b2 with
    | false =>
      rw [if_neg (by simp [tupI])]
      exact ⟨j2, false, rfl, h2, fun h => by cases h⟩
    | true =>
      rw [if_pos (show (tupI j2 true).2.2.2.2.2.2.2 = true from rfl), hw, show k + m + 90 + 30 = k + m + 120 by omega]
      obtain ⟨j3, b3, h3, h4, h5⟩ := ih (t + 1) j2 k (by omega)
      exact ⟨j3, b3, h3, h4.trans h2, h5⟩
theorem of_l0_text (i : IR) (h : okI i) (line p : List UInt8) (hp : ∀ c ∈ p, c ∈ lettersR) (hp4 : p.length ≤ 4) (l : List ByteArray) (hl : l.map (·.data.toList) = p.map (partRf i)) : ∀ (m t : Nat) (j : IR) (k : Nat), t + m = p.length →
    brazierref5_of.l0 (k + m + 120) ⟨line.toArray⟩ ⟨p.toArray⟩ l (t : Int) j.op j.d j.n j.m j.a j.cond j.imm =
      some (tupI ((p.drop t).foldl (fun j c => setR j c (fieldR i c)) j) (insS ((p.drop t).foldl (fun j c => setR j c (fieldR i c)) j) == line)) := by
  have hll : l.length = p.length := by have := congrArg List.length hl; simpa using this
  intro m
  induction m with
  | zero =>
    intro t j k ht
    rw [brazierref5_of.l0, if_neg (by rw [ba_sz]; omega), show k + 0 + 119 = (k + 39) + 80 by omega, ref_ins, Option.bind_some, tl_mk, tl_mk, List.drop_of_length_le (by omega)]
    rfl
  | succ m ih =>
    intro t j k ht
    have htl : t < l.length := by omega
    have htp : t < p.length := by omega
    have hw : wrap64 ((t : Int) + 1) = ((t + 1 : Nat) : Int) := by unfold wrap64; omega
    have hr : rdOf ByteArray.empty l (t : Int) = ⟨(partRf i (p[t]'htp)).toArray⟩ := by
      unfold rdOf
      rw [Int.toNat_natCast, List.getD_eq_getElem?_getD, List.getElem?_eq_getElem htl, Option.getD_some, ba_eta (l[t]'htl)]
      have := congrArg (fun x => x[t]?) hl
      simp only [List.getElem?_map, List.getElem?_eq_getElem htl, List.getElem?_eq_getElem htp, Option.map_some] at this
      rw [Option.some.inj this]
    rw [show k + (m + 1) + 120 = (k + m + 90 + 30) + 1 by omega, brazierref5_of.l0, if_pos (by rw [ba_sz]; omega), if_pos (by omega), if_pos (by omega), hr, bt_at p t htp,
      part_text i j h _ (hp _ (List.getElem_mem htp)), Option.bind_some, if_pos (show (tupI (setR j (p[t]'htp) (fieldR i (p[t]'htp))) true).2.2.2.2.2.2.2 = true from rfl), hw, show k + m + 90 + 30 = k + m + 120 by omega]
    have := ih (t + 1) (setR j (p[t]'htp) (fieldR i (p[t]'htp))) k (by omega)
    rw [List.drop_eq_getElem_cons htp, List.foldl_cons]
    exact this
theorem of_any (op : Int) (h : 0 ≤ op ∧ op ≤ 42) (line : List UInt8) (hs : line.length ≤ 90000) (k : Nat) :
    ∃ (j : IR) (b : Bool), brazierref5_of.f (k + line.length + 200) op ⟨line.toArray⟩ = some (tupI j b) ∧ j.op = op ∧ (b = true → insS j = line ∧ line ≠ []) := by
  have hf := pR_facts op.toNat (by omega)
  have hnf := nm_facts op.toNat (by omega)
  have hpl : (pR op).length ≤ 4 := hf.1
  have hpe : pR op = [] ↔ pT op = [] := hf.2.2
  have hnl : (nm5 op).length ≤ 5 := hnf.2.1
  have hnn : nm5 op ≠ [] := hnf.1
  have ho : (op.toNat : Int) = op := by omega
  have hw : wrap64 (((nm5 op).length : Int) + 1) = (((nm5 op).length + 1 : Nat) : Int) := by unfold wrap64; omega
  rw [brazierref5_of.f, name_op _ h, Option.bind_some, show k + line.length + 200 = 20 + (k + line.length + 180) by omega, pR_op _ h, Option.bind_some, tl_mk, tl_mk, tl_mk, ba_sz, ba_sz, hw]
  by_cases hp : pR op = []
  · rw [if_pos hp]
    refine ⟨i0 op, _, rfl, rfl, fun hb => ?_⟩
    have hb2 : line = nm5 op := by simpa using hb
    have hok : okI (i0 op) := by have := nil_ok op.toNat (by omega) hp; rwa [ho] at this
    have : insS (i0 op) = nm5 op := by rw [insS, if_pos hok, insB, if_pos (show pT (i0 op).op = [] from hpe.1 hp), List.append_nil]; rfl
    exact ⟨this.trans hb2.symm, by rw [hb2]; exact hnn⟩
  · rw [if_neg hp]
    have bad : ∀ k, brazierref5_of.j0 (k + 1) ⟨line.toArray⟩ ⟨(nm5 op).toArray⟩ ⟨(pR op).toArray⟩ true op 0 0 0 0 0 0 = some (tupI (i0 op) false) := fun k => by rw [brazierref5_of.j0, if_pos rfl]; rfl
    by_cases hle : (line.length : Int) ≤ ((nm5 op).length : Int)
    · rw [if_pos hle, show 20 + (k + line.length + 180) = (k + line.length + 199) + 1 by omega, bad]
      exact ⟨_, false, rfl, rfl, fun hb => by cases hb⟩
    · have hne : line ≠ [] := by rintro rfl; exact hle (by simp)
      rw [if_neg hle, if_pos (by omega), if_pos (by omega), if_pos (by omega)]
      cases ((⟨line.toArray⟩ : ByteArray).extract 0 ((((nm5 op).length + 1 : Nat) : Int)).toNat).toList != ((⟨(nm5 op).toArray⟩ : ByteArray) ++ (⟨#[32]⟩ : ByteArray)).toList with
      | true =>
        rw [show 20 + (k + line.length + 180) = (k + line.length + 199) + 1 by omega, bad]
        exact ⟨_, false, rfl, rfl, fun hb => by cases hb⟩
      | false =>
        rw [show 20 + (k + line.length + 180) = (k + line.length + 199) + 1 by omega, brazierref5_of.j0, if_neg (by simp), ba_sz, ba_sz, ba_sz, hw, if_pos (by omega), if_pos (by omega), ba_ext, Int.toNat_natCast]
        obtain ⟨l, h1, h2⟩ := split_ref ((line.drop ((nm5 op).length + 1)).take (line.length - ((nm5 op).length + 1))) (by simp; omega) (k + line.length + 199 - ((line.drop ((nm5 op).length + 1)).take (line.length - ((nm5 op).length + 1))).length - 1)
        rw [show k + line.length + 199 - ((line.drop ((nm5 op).length + 1)).take (line.length - ((nm5 op).length + 1))).length - 1 + ((line.drop ((nm5 op).length + 1)).take (line.length - ((nm5 op).length + 1))).length + 1 = k + line.length + 199 by simp; omega] at h1
        rw [h1, Option.bind_some]
        by_cases hll : l.length = (pR op).length
        · rw [if_pos (by omega)]
          obtain ⟨j3, b3, h3, h4, h5⟩ := of_l0_any line (pR op) l hll hpl (fun x hx => by
            have h6 : x.data.toList ∈ l.map (·.data.toList) := List.mem_map_of_mem hx
            rw [h2] at h6
            have := spl_len _ _ _ _ h6
            simp at this
            show x.data.size ≤ _
            rw [← Array.length_toList]
            simp; omega) (pR op).length 0 (i0 op) (k + line.length + 79 - (pR op).length) (by omega)
          rw [show k + line.length + 79 - (pR op).length + (pR op).length + 120 = k + line.length + 199 by omega] at h3
          exact ⟨j3, b3, h3, h4, fun hb => ⟨h5 hb, hne⟩⟩
        · rw [if_neg (by omega)]
          exact ⟨i0 op, false, rfl, rfl, fun hb => by cases hb⟩
theorem of_text (i : IR) (h : okI i) (k : Nat) : brazierref5_of.f (k + (insB i).length + 200) i.op ⟨(insB i).toArray⟩ = some (tupI i true) := by
  have hop := h.1
  have hf := pR_facts i.op.toNat (by omega)
  have hnf := nm_facts i.op.toNat (by omega)
  have hpl : (pR i.op).length ≤ 4 := hf.1
  have hpm : ∀ c ∈ pR i.op, c ∈ lettersR := hf.2.1
  have hpe : pR i.op = [] ↔ pT i.op = [] := hf.2.2
  have hnl : (nm5 i.op).length ≤ 5 := hnf.2.1
  have hw : wrap64 (((nm5 i.op).length : Int) + 1) = (((nm5 i.op).length + 1 : Nat) : Int) := by unfold wrap64; omega
  have hback := foldR_back h
  obtain ⟨line, hline⟩ : ∃ line, insB i = line := ⟨_, rfl⟩
  have hS : insS i = line := by rw [insS, if_pos h, hline]
  rw [hline, brazierref5_of.f, name_op _ hop, Option.bind_some, show k + line.length + 200 = 20 + (k + line.length + 180) by omega, pR_op _ hop, Option.bind_some, tl_mk, tl_mk, tl_mk, ba_sz, ba_sz, hw]
  by_cases hp : pR i.op = []
  · rw [if_pos hp]
    have hl2 : line = nm5 i.op := by rw [← hline, insB, if_pos (hpe.1 hp), List.append_nil]
    have hi : i0 i.op = i := by rw [hp] at hback; exact hback
    rw [hl2, beq_self_eq_true]
    show some (tupI (i0 i.op) true) = _
    rw [hi]
  · rw [if_neg hp]
    have hl2 : line = nm5 i.op ++ 32 :: restS i := by rw [← hline, insB, if_neg (fun x => hp (hpe.2 x))]
    have hll : line.length = (nm5 i.op).length + 1 + (restS i).length := by rw [hl2]; simp; omega
    have hd : (line.drop ((nm5 i.op).length + 1)).take (line.length - ((nm5 i.op).length + 1)) = restS i := by
      rw [hll, show (nm5 i.op).length + 1 + (restS i).length - ((nm5 i.op).length + 1) = (restS i).length by omega, hl2, show nm5 i.op ++ 32 :: restS i = (nm5 i.op ++ [32]) ++ restS i by simp, List.drop_left' (by simp), List.take_length]
    have ht : line.take ((nm5 i.op).length + 1) = nm5 i.op ++ [32] := by
      rw [hl2, show nm5 i.op ++ 32 :: restS i = (nm5 i.op ++ [32]) ++ restS i by simp, List.take_left' (by simp)]
    have hrl : (restS i).length ≤ 90000 := by
      unfold restS
      rw [parts_same i hop]
      cases hq : pR i.op with
      | nil => exact absurd hq hp
      | cons c cs =>
        rw [hq] at hpl
        rw [List.map_cons, join_cons, List.length_append, joinTail_length]
        have h1 := partRf_len h c
        have h2 : ∀ cs : List UInt8, lens (cs.map (partRf i)) ≤ 12 * cs.length := by
          intro cs
          induction cs with
          | nil => simp [lens]
          | cons x xs ih => have := partRf_len h x; simp [lens] at ih ⊢; omega
        have := h2 cs
        simp [sep2] at hpl ⊢
        omega
    rw [if_neg (by omega), if_pos (by omega), if_pos (by omega), if_pos (by omega), ba_ext, Int.toNat_natCast, List.drop_zero, Nat.sub_zero, ht, tl_mk, show (⟨#[32]⟩ : ByteArray) = ⟨[32].toArray⟩ from rfl, ba_app, tl_mk,
      show ((nm5 i.op ++ [32]) != (nm5 i.op ++ [32])) = false by simp, show 20 + (k + line.length + 180) = (k + line.length + 199) + 1 by omega, brazierref5_of.j0, if_neg (by simp), ba_sz, ba_sz, ba_sz, hw, if_pos (by omega), if_pos (by omega), ba_ext, Int.toNat_natCast, hd]
    obtain ⟨l, h1, h2⟩ := split_ref (restS i) (by omega) (k + line.length + 198 - (restS i).length)
    rw [show k + line.length + 198 - (restS i).length + (restS i).length + 1 = k + line.length + 199 by omega] at h1
    have h3 : l.map (·.data.toList) = (pR i.op).map (partRf i) := by
      rw [h2, ← parts_same i hop]
      unfold restS
      cases hq : pT i.op with
      | nil => exact absurd (hpe.2 hq) hp
      | cons c cs =>
        rw [List.map_cons]
        exact spl_join _ _ (fun x hx => by
          rw [← List.map_cons] at hx
          obtain ⟨c', -, rfl⟩ := List.mem_map.1 hx
          exact part_no h c')
    have hlen : l.length = (pR i.op).length := by have := congrArg List.length h3; simpa using this
    have h4 := of_l0_text i h line (pR i.op) hpm hpl l h3 (pR i.op).length 0 (i0 i.op) (k + line.length + 79 - (pR i.op).length) (by omega)
    rw [show k + line.length + 79 - (pR i.op).length + (pR i.op).length + 120 = k + line.length + 199 by omega, List.drop_zero, hback, hS, beq_self_eq_true] at h4
    rw [h1, Option.bind_some, if_pos (by omega)]
    exact h4
def ParS (line : List UInt8) (r : IR) (f : Int) : Prop := (okI r ∧ insB r = line ∧ f = 0) ∨ ((∀ i, okI i → insB i ≠ line) ∧ r = i0 0 ∧ f = 5)
theorem ParS.det {line : List UInt8} {r r' : IR} {f f' : Int} (h : ParS line r f) (h' : ParS line r' f') : r = r' ∧ f = f' := by
  rcases h with ⟨h1, h2, h3⟩ | ⟨h1, h2, h3⟩ <;> rcases h' with ⟨k1, k2, k3⟩ | ⟨k1, k2, k3⟩
  · exact ⟨insB_inj h1 k1 (h2.trans k2.symm), h3.trans k3.symm⟩
  · exact absurd h2 (k1 _ h1)
  · exact absurd k2 (h1 _ k1)
  · exact ⟨h2.trans k2.symm, h3.trans k3.symm⟩
theorem ref_parse (line : List UInt8) (hs : line.length ≤ 90000) (k : Nat) :
    ∃ (r : IR) (f : Int), brazierref5_Parse.f (k + line.length + 300) ⟨line.toArray⟩ = some (r.op, r.d, r.n, r.m, r.a, r.cond, r.imm, f) ∧ ParS line r f := by
  have key : ∀ (m op k : Nat), op + m = 43 → (∀ i, okI i → i.op < op → insB i ≠ line) →
      ∃ (r : IR) (f : Int), brazierref5_Parse.l0 (k + line.length + 201 + m) ⟨line.toArray⟩ (op : Int) = some (r.op, r.d, r.n, r.m, r.a, r.cond, r.imm, f) ∧ ParS line r f := by
    intro m
    induction m with
    | zero =>
      intro op k ho hn
      rw [brazierref5_Parse.l0, if_neg (by omega)]
      exact ⟨i0 0, 5, rfl, .inr ⟨fun i hi => hn i hi (by have := hi.1; omega), rfl, rfl⟩⟩
    | succ m ih =>
      intro op k ho hn
      have hw : wrap64 ((op : Int) + 1) = ((op + 1 : Nat) : Int) := by unfold wrap64; omega
      obtain ⟨j, b, h1, h2, h3⟩ := of_any (op : Int) (by omega) line hs (k + 1 + m)
      rw [show k + line.length + 201 + (m + 1) = (k + 1 + m + line.length + 200) + 1 by omega, brazierref5_Parse.l0, if_pos (by omega), h1, Option.bind_some]
      cases b with
      | true =>
        rw [if_pos (show (tupI j true).2.2.2.2.2.2.2 = true from rfl)]
        obtain ⟨h4, h5⟩ := h3 rfl
        have hok : okI j := by
          by_cases hj : okI j
          · exact hj
          · rw [insS, if_neg hj] at h4; exact absurd h4.symm h5
        rw [insS, if_pos hok] at h4
        exact ⟨j, 0, rfl, .inl ⟨hok, h4, rfl⟩⟩
      | false =>
        rw [if_neg (by simp [tupI]), hw, show k + 1 + m + line.length + 200 = k + line.length + 201 + m by omega]
        refine ih (op + 1) k (by omega) fun i hi hlt e => ?_
        by_cases ho2 : i.op < op
        · exact hn i hi ho2 e
        · have hop : i.op = (op : Int) := by omega
          have := of_text i hi (k + 1 + m)
          rw [e, hop, h1] at this
          have h6 := congrArg (fun x => x.map fun y => y.2.2.2.2.2.2.2) this
          simp [tupI] at h6
  obtain ⟨r, f, h1, h2⟩ := key 43 0 (k + 56) (by omega) (fun i hi hlt => absurd hi.1.1 (by omega))
  exact ⟨r, f, by rw [brazierref5_Parse.f, show k + line.length + 300 = k + 56 + line.length + 201 + 43 by omega]; exact h1, h2⟩
end Go.Proofs.YtkphijabhoppnaaGreatDoor
