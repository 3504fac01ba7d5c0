/- The reference's lines of a text are the lines that have something. -/
import Derived.Test.YtkphijabhoppnaaGreatDoorAMc
import Derived.Test.YtkphijabhoppnaaGreatDoorAMg
import Derived.Test.YtkphijabhoppnaaGreatDoorALh
import Derived.Test.YtkphijabhoppnaaGreatDoorAPTextProgramsx10
namespace Go.Proofs.YtkphijabhoppnaaGreatDoor
open Go.Lib Go.RowKit Go.Proofs.YtkphijabhoppnaaGreatDoorW.PrintWords
open Go.Proofs.YtkphijabhoppnaaGreatDoor.PTextPrograms
set_option linter.unusedSimpArgs false
set_option linter.unusedVariables false
theorem trimRightS_cons (c : UInt8) (l cs : List UInt8) : trimRightS (c :: l) cs = if trimRightS l cs = [] ∧ cs.contains c = true then [] else c :: trimRightS l cs := by
  unfold trimRightS
  rw [List.reverse_cons, List.dropWhile_append]
  by_cases h : (l.reverse.dropWhile (cs.contains ·)) = []
  · rw [h]
    by_cases hc : cs.contains c = true
    · rw [if_pos (show ([] : List UInt8).isEmpty = true from rfl), List.dropWhile_cons, if_pos hc, if_pos ⟨rfl, hc⟩]; rfl
    · rw [if_pos (show ([] : List UInt8).isEmpty = true from rfl), List.dropWhile_cons, if_neg hc, if_neg (fun x => hc x.2)]; rfl
  · have h2 : (l.reverse.dropWhile (cs.contains ·)).isEmpty = false := by
      cases hh : l.reverse.dropWhile (cs.contains ·) with
      | nil => exact absurd hh h
      | cons a b => rfl
    rw [h2, if_neg (by decide), if_neg (fun x => h (List.reverse_eq_nil_iff.1 x.1)), List.reverse_append]
    rfl
theorem trimS_comm : ∀ (l cs : List UInt8), trimRightS (trimLeftS l cs) cs = trimS l cs := by
  intro l cs
  unfold trimS
  induction l with
  | nil => rfl
  | cons c l ih =>
    by_cases hc : cs.contains c = true
    · have e : trimLeftS (c :: l) cs = trimLeftS l cs := by unfold trimLeftS; rw [List.dropWhile_cons, if_pos hc]
      rw [e, ih, trimRightS_cons]
      by_cases h : trimRightS l cs = []
      · rw [if_pos ⟨h, hc⟩, h]
      · rw [if_neg (fun x => h x.1)]
        unfold trimLeftS
        rw [List.dropWhile_cons, if_pos hc]
    · have e : trimLeftS (c :: l) cs = c :: l := by unfold trimLeftS; rw [List.dropWhile_cons, if_neg hc]
      rw [e, trimRightS_cons, if_neg (fun x => hc x.2)]
      unfold trimLeftS
      rw [List.dropWhile_cons, if_neg hc]
section
variable (x0 : ByteArray) (x3 : List S30) (x4 x5 x6 : Int) (r : List S30)
theorem ref_l3 (hx : x3.length < 5864062014805) (K : Nat) : ∀ (n : Nat) (t : List UInt8), t.length = n → n < 1000000000 →
    brazierref5_Lines.l0 K x0 (x3 ++ if trimRightS t [32, 9] = [] then [] else [(⟨x5, ⟨(trimRightS t [32, 9]).toArray⟩⟩ : S30)]) x4 x5 (wrap64 (x6 + 1)) = some r →
    brazierref5_Lines.l3 (K + n + 1) x0 x3 x4 x5 x6 ⟨t.toArray⟩ = some r := by
  intro n
  induction n with
  | zero =>
    intro t ht hn h
    obtain rfl := List.length_eq_zero_iff.1 ht
    rw [trimRightS_nil, if_pos rfl, List.append_nil] at h
    rw [brazierref5_Lines.l3, if_pos (by rw [be_list])]
    exact h
  | succ n ih =>
    intro t ht hn h
    have hne : t ≠ [] := fun e => by rw [e] at ht; cases ht
    obtain ⟨t', c, rfl⟩ : ∃ t' c, t = t' ++ [c] := ⟨t.dropLast, t.getLast hne, (List.dropLast_concat_getLast hne).symm⟩
    have ht' : t'.length = n := by simpa using ht
    have hw : wrap64 (((⟨(t' ++ [c]).toArray⟩ : ByteArray).size : Int) - 1) = (n : Int) := by rw [ba_sz, List.length_append]; unfold wrap64; simp; omega
    have hb : bt ⟨(t' ++ [c]).toArray⟩ (n : Int) = ((c.toNat : Nat) : Int) := by
      rw [bt_at _ n (by simp <;> omega)]
      simp [← ht']
    have hex : (⟨(t' ++ [c]).toArray⟩ : ByteArray).extract 0 ((n : Int)).toNat = ⟨t'.toArray⟩ := by
      rw [ba_ext, Int.toNat_natCast, List.drop_zero, Nat.sub_zero, ← ht', List.take_left']; rfl
    have hR : ∀ p : List UInt8 → Bool, True := fun _ => trivial
    have e1 : ∀ cs : List UInt8, cs.contains c = true → trimRightS (t' ++ [c]) cs = trimRightS t' cs := fun cs hc => by
      unfold trimRightS
      rw [List.reverse_append, List.reverse_singleton, List.singleton_append, List.dropWhile_cons, if_pos hc]
    have e2 : ∀ cs : List UInt8, cs.contains c = false → trimRightS (t' ++ [c]) cs = t' ++ [c] := fun cs hc => by
      unfold trimRightS
      rw [List.reverse_append, List.reverse_singleton, List.singleton_append, List.dropWhile_cons, if_neg (by rw [hc]; decide)]
      simp
    rw [show K + (n + 1) + 1 = (K + n + 1) + 1 by omega, brazierref5_Lines.l3, if_neg (by rw [be_list]; simp), hw, if_pos (by omega), if_pos (by rw [ba_sz]; simp <;> omega), hb]
    by_cases hc : c = 32
    · subst hc
      rw [e1 _ (by decide)] at h
      rw [if_pos (by decide), if_pos (by rw [ba_sz]; simp <;> omega), hex]
      exact ih t' ht' (by omega) h
    · rw [if_neg (by intro e; apply hc; apply UInt8.toNat_inj.1; have : c.toNat = 32 := by omega
                     rw [this]; rfl)]
      by_cases hc9 : c = 9
      · subst hc9
        rw [e1 _ (by decide)] at h
        rw [if_pos (by decide), if_pos (by rw [ba_sz]; simp <;> omega), hex]
        exact ih t' ht' (by omega) h
      · rw [e2 _ (by simp [hc, hc9]), if_neg (by simp)] at h
        rw [if_neg (by intro e; apply hc9; apply UInt8.toNat_inj.1; have : c.toNat = 9 := by omega
                       rw [this]; rfl), if_pos hx]
        have := up (fun k => (brazierref5_Lines.mono_l k).1 x0 (x3 ++ [(⟨x5, ⟨(t' ++ [c]).toArray⟩⟩ : S30)]) x4 x5 (wrap64 (x6 + 1))) h (n + 1)
        exact this
theorem ref_l2 (K : Nat) : ∀ (t : List UInt8), t.length < 1000000000 →
    brazierref5_Lines.l3 K x0 x3 x4 x5 x6 ⟨(trimLeftS t [32, 9]).toArray⟩ = some r →
    brazierref5_Lines.l2 (K + t.length + 2) x0 x3 x4 x5 x6 ⟨t.toArray⟩ = some r := by
  intro t
  induction t with
  | nil =>
    intro _ h
    rw [List.length_nil, brazierref5_Lines.l2, if_pos (by rw [be_list]), brazierref5_Lines.j4]
    exact h
  | cons c t ih =>
    intro hn h
    have hb : bt ⟨(c :: t).toArray⟩ 0 = ((c.toNat : Nat) : Int) := by
      have := bt_at (c :: t) 0 (by simp)
      simpa using this
    have hex : (⟨(c :: t).toArray⟩ : ByteArray).extract 1 (⟨(c :: t).toArray⟩ : ByteArray).size = ⟨t.toArray⟩ := by
      rw [ba_ext, ba_sz]
      simp
    rw [List.length_cons] at hn
    rw [List.length_cons, show K + (t.length + 1) + 2 = (K + t.length + 2) + 1 by omega, brazierref5_Lines.l2, if_neg (by rw [be_list]; simp), if_pos (by rw [ba_sz]; simp <;> omega), hb]
    by_cases hc : c = 32
    · subst hc
      rw [show trimLeftS (32 :: t) [32, 9] = trimLeftS t [32, 9] by unfold trimLeftS; rw [List.dropWhile_cons, if_pos (by decide)]] at h
      rw [if_pos (by decide), if_pos (by rw [ba_sz]; simp <;> omega), hex]
      exact ih (by omega) h
    · rw [if_neg (by intro e; apply hc; apply UInt8.toNat_inj.1; have : c.toNat = 32 := by omega
                     rw [this]; rfl)]
      by_cases hc9 : c = 9
      · subst hc9
        rw [show trimLeftS (9 :: t) [32, 9] = trimLeftS t [32, 9] by unfold trimLeftS; rw [List.dropWhile_cons, if_pos (by decide)]] at h
        rw [if_pos (by decide), if_pos (by rw [ba_sz]; simp <;> omega), hex]
        exact ih (by omega) h
      · rw [show trimLeftS (c :: t) [32, 9] = c :: t by unfold trimLeftS; rw [List.dropWhile_cons, if_neg (by simp [hc, hc9])]] at h
        rw [if_neg (by intro e; apply hc9; apply UInt8.toNat_inj.1; have : c.toNat = 9 := by omega
                       rw [this]; rfl), brazierref5_Lines.j4]
        exact up (fun k => (brazierref5_Lines.mono_l k).2.2.2.2.1 x0 x3 x4 x5 x6 ⟨(c :: t).toArray⟩) h (t.length + 1)
theorem ref_l1 (K : Nat) (t : List UInt8) (hl : t.length < 1000000000)
    (h : brazierref5_Lines.l2 K x0 x3 x4 x5 x6 ⟨(cut t [59]).1.toArray⟩ = some r) : ∀ (m j : Nat), t.length = j + m → (59 : UInt8) ∉ t.take j →
    brazierref5_Lines.l1 (K + m + 2) x0 x3 x4 x5 x6 ⟨t.toArray⟩ (j : Int) = some r := by
  intro m
  induction m with
  | zero =>
    intro j hj hno
    rw [List.take_of_length_le (by omega)] at hno
    rw [cut, index_nowhere t 59 [] hno, if_neg (by decide)] at h
    rw [brazierref5_Lines.l1, if_neg (by rw [ba_sz]; omega)]
    exact up (fun k => (brazierref5_Lines.mono_l k).2.2.2.2.2 x0 x3 x4 x5 x6 ⟨t.toArray⟩) h 1
  | succ m ih =>
    intro j hj hno
    have hlt : j < t.length := by omega
    have hw : wrap64 ((j : Int) + 1) = ((j + 1 : Nat) : Int) := by unfold wrap64; omega
    rw [show K + (m + 1) + 2 = (K + m + 2) + 1 by omega, brazierref5_Lines.l1, if_pos (by rw [ba_sz]; omega), if_pos (by omega), bt_at t j hlt, hw]
    by_cases hc : t[j]'hlt = 59
    · have hx : index t [59] = (j : Nat) := by
        have e : t = t.take j ++ (59 :: [] ++ t.drop (j + 1)) := by
          rw [← hc]; simp
        have := index_behind (t.take j) (t.drop (j + 1)) 59 [] hno
        rw [← e] at this
        rw [this, List.length_take]; omega
      have hex : (⟨t.toArray⟩ : ByteArray).extract 0 ((j : Int)).toNat = ⟨(t.take j).toArray⟩ := by
        rw [ba_ext, Int.toNat_natCast, List.drop_zero, Nat.sub_zero]
      rw [cut, hx, if_pos (by omega), Int.toNat_natCast] at h
      rw [hc, if_pos (by decide), if_pos (by rw [ba_sz]; omega), hex, brazierref5_Lines.l1, if_neg (by rw [ba_sz, List.length_take]; omega)]
      exact up (fun k => (brazierref5_Lines.mono_l k).2.2.2.2.2 x0 x3 x4 x5 x6 ⟨(t.take j).toArray⟩) h (m + 1)
    · rw [if_neg (by intro e; apply hc; apply UInt8.toNat_inj.1; have : (t[j]'hlt).toNat = 59 := by omega
                     rw [this]; rfl)]
      refine ih (j + 1) (by omega) ?_
      rw [List.take_add_one, List.getElem?_eq_getElem hlt]
      intro hm
      rcases List.mem_append.1 hm with hm | hm
      · exact hno hm
      · simp at hm
        exact hc hm.symm
end
def newL (t : List UInt8) (n : Int) : List S30 := if lineT t = [] then [] else [(⟨n, ⟨(lineT t).toArray⟩⟩ : S30)]
theorem ref_line (L : List UInt8) (x3 : List S30) (p i n : Nat) (r : List S30) (K : Nat) (hL : L.length ≤ 100000) (hp : p ≤ i) (hi : i ≤ L.length) (hn : n ≤ 200000) (hx : x3.length ≤ 200000)
    (h : brazierref5_Lines.l0 K ⟨L.toArray⟩ (x3 ++ newL ((L.drop p).take (i - p)) ((n + 1 : Nat) : Int)) ((i + 1 : Nat) : Int) ((n + 1 : Nat) : Int) ((i + 1 : Nat) : Int) = some r) :
    brazierref5_Lines.j1 (K + 3 * (i - p) + 8) ⟨L.toArray⟩ x3 (p : Int) (n : Int) (i : Int) false = some r := by
  have hwi : wrap64 ((i : Int) + 1) = ((i + 1 : Nat) : Int) := by unfold wrap64; omega
  have hwn : wrap64 ((n : Int) + 1) = ((n + 1 : Nat) : Int) := by unfold wrap64; omega
  obtain ⟨t, ht⟩ : ∃ t, (L.drop p).take (i - p) = t := ⟨_, rfl⟩
  have htl : t.length = i - p := by rw [← ht, List.length_take, List.length_drop]; omega
  rw [ht] at h
  have hcl : (cut t [59]).1.length ≤ t.length := by
    unfold cut
    split
    · rw [List.length_take]; exact Nat.min_le_right _ _
    · exact Nat.le_refl _
  have htr : (trimLeftS (cut t [59]).1 [32, 9]).length ≤ (cut t [59]).1.length := (List.dropWhile_sublist _).length_le
  have hnew : newL t ((n + 1 : Nat) : Int) = if trimRightS (trimLeftS (cut t [59]).1 [32, 9]) [32, 9] = [] then [] else [(⟨((n + 1 : Nat) : Int), ⟨(trimRightS (trimLeftS (cut t [59]).1 [32, 9]) [32, 9]).toArray⟩⟩ : S30)] := by
    rw [trimS_comm]; rfl
  rw [hnew] at h
  have h3 := ref_l3 ⟨L.toArray⟩ x3 ((i + 1 : Nat) : Int) ((n + 1 : Nat) : Int) (i : Int) r (by omega) K _ (trimLeftS (cut t [59]).1 [32, 9]) rfl (by omega) (by rw [hwi]; exact h)
  have h2 := ref_l2 ⟨L.toArray⟩ x3 ((i + 1 : Nat) : Int) ((n + 1 : Nat) : Int) (i : Int) r _ (cut t [59]).1 (by omega) h3
  have h1 := ref_l1 ⟨L.toArray⟩ x3 ((i + 1 : Nat) : Int) ((n + 1 : Nat) : Int) (i : Int) r _ t (by omega) h2 t.length 0 (by omega) (by simp)
  have h0 := up (fun k => (brazierref5_Lines.mono_l k).2.2.1 ⟨L.toArray⟩ x3 ((i + 1 : Nat) : Int) ((n + 1 : Nat) : Int) (i : Int) ⟨t.toArray⟩ ((0 : Nat) : Int)) h1 (3 * (i - p) + 7 - (trimLeftS (cut t [59]).1 [32, 9]).length - 1 - (cut t [59]).1.length - 2 - t.length - 2)
  have hex : (⟨L.toArray⟩ : ByteArray).extract ((p : Int)).toNat ((i : Int)).toNat = ⟨t.toArray⟩ := by
    rw [ba_ext, Int.toNat_natCast, Int.toNat_natCast, ht]
  rw [show K + 3 * (i - p) + 8 = (K + (trimLeftS (cut t [59]).1 [32, 9]).length + 1 + (cut t [59]).1.length + 2 + t.length + 2 + (3 * (i - p) + 7 - (trimLeftS (cut t [59]).1 [32, 9]).length - 1 - (cut t [59]).1.length - 2 - t.length - 2)) + 1 by omega,
    brazierref5_Lines.j1, if_neg (by decide), if_pos (by omega), if_pos (by omega), if_pos (by rw [ba_sz]; omega), hwi, hwn, hex]
  exact h0
def s30L (l : List (Nat × List UInt8)) : List S30 := l.map fun x => (⟨(x.1 : Int), ⟨x.2.toArray⟩⟩ : S30)
theorem newL_outs (n : Nat) (t : List UInt8) (l : List ByteArray) : newL t ((n + 1 : Nat) : Int) ++ s30L (outsL (n + 1) l) = s30L (outsL n (strB t :: l)) := by
  have e : (strB t).data.toList = t := rfl
  rw [outsL, e]
  unfold newL s30L
  by_cases h : lineT t = []
  · rw [if_pos h, if_pos h]; rfl
  · rw [if_neg h, if_neg h]; rfl
theorem splN_one (a : List UInt8) (h : (10 : UInt8) ∉ a) : splN a = [a] := by
  induction a with
  | nil => rfl
  | cons c r ih =>
    have hc : c ≠ 10 := fun e => h (by rw [e]; simp)
    rw [splN, if_neg hc, ih (fun hm => h (List.mem_cons_of_mem _ hm))]
theorem ref_scan (L : List UInt8) (hL : L.length ≤ 100000) : ∀ (q : List UInt8) (p i n : Nat) (x3 : List S30), p ≤ i → i + q.length = L.length → L.drop i = q → (10 : UInt8) ∉ (L.drop p).take (i - p) → n ≤ i → x3.length ≤ n →
    brazierref5_Lines.l0 (20 * q.length + 10 * (i - p) + 40) ⟨L.toArray⟩ x3 (p : Int) (n : Int) (i : Int) = some (x3 ++ s30L (outsL n ((splN ((L.drop p).take (i - p) ++ q)).map strB))) := by
  intro q
  induction q with
  | nil =>
    intro p i n x3 hp hi hd hno hn hx
    rw [List.length_nil] at hi
    have hfin : brazierref5_Lines.l0 1 ⟨L.toArray⟩ (x3 ++ newL ((L.drop p).take (i - p)) ((n + 1 : Nat) : Int)) ((i + 1 : Nat) : Int) ((n + 1 : Nat) : Int) ((i + 1 : Nat) : Int) = some (x3 ++ newL ((L.drop p).take (i - p)) ((n + 1 : Nat) : Int)) := by
      rw [brazierref5_Lines.l0, if_neg (by rw [ba_sz]; omega)]
    have h1 := ref_line L x3 p i n _ 1 hL hp (by omega) (by omega) (by omega) hfin
    have h2 := up (fun k => (brazierref5_Lines.mono_l k).2.1 ⟨L.toArray⟩ x3 (p : Int) (n : Int) (i : Int) false) h1 (7 * (i - p) + 30)
    rw [List.append_nil, splN_one _ hno, List.map_cons, List.map_nil, ← newL_outs]
    rw [show outsL (n + 1) [] = [] from rfl, show s30L [] = [] from rfl, List.append_nil]
    rw [show 20 * ([] : List UInt8).length + 10 * (i - p) + 40 = (1 + 3 * (i - p) + 8 + (7 * (i - p) + 30)) + 1 by simp; omega, brazierref5_Lines.l0, if_pos (by rw [ba_sz]; omega), if_neg (by rw [ba_sz]; omega)]
    exact h2
  | cons c q ih =>
    intro p i n x3 hp hi hd hno hn hx
    rw [List.length_cons] at hi
    have hlt : i < L.length := by omega
    have hci : L[i]'hlt = c := by
      have := List.getElem?_drop (xs := L) (i := i) (j := 0)
      rw [hd, Nat.add_zero, List.getElem?_eq_getElem hlt] at this
      simpa using this.symm
    have hd2 : L.drop (i + 1) = q := by
      rw [← List.drop_drop, hd]; rfl
    have hwi : wrap64 ((i : Int) + 1) = ((i + 1 : Nat) : Int) := by unfold wrap64; omega
    rw [List.length_cons, show 20 * (q.length + 1) + 10 * (i - p) + 40 = (20 * q.length + 10 * (i - p) + 59) + 1 by omega, brazierref5_Lines.l0, if_pos (by rw [ba_sz]; omega), if_pos (by rw [ba_sz]; omega), if_pos (by omega), bt_at L i hlt, hci]
    by_cases hc : c = 10
    · subst hc
      have hih := ih (i + 1) (i + 1) (n + 1) (x3 ++ newL ((L.drop p).take (i - p)) ((n + 1 : Nat) : Int)) (Nat.le_refl _) (by omega) hd2 (by simp) (by omega) (by
        rw [List.length_append]; unfold newL; split <;> simp <;> omega)
      rw [Nat.sub_self, List.take_zero, List.nil_append, Nat.mul_zero, Nat.add_zero] at hih
      have h1 := ref_line L x3 p i n _ _ hL hp (by omega) (by omega) (by omega) hih
      have h2 := up (fun k => (brazierref5_Lines.mono_l k).2.1 ⟨L.toArray⟩ x3 (p : Int) (n : Int) (i : Int) false) h1 (7 * (i - p) + 11)
      rw [splN_line _ _ hno, List.map_cons, ← newL_outs, ← List.append_assoc]
      rw [show 20 * q.length + 10 * (i - p) + 59 = 20 * q.length + 40 + 3 * (i - p) + 8 + (7 * (i - p) + 11) by omega]
      exact h2
    · have hne : ((((c.toNat : Nat) : Int)) != 10) = true := by
        rw [bne_iff_ne]
        intro e; apply hc; apply UInt8.toNat_inj.1
        have : c.toNat = 10 := by omega
        rw [this]; rfl
      have hpre : (L.drop p).take (i + 1 - p) = (L.drop p).take (i - p) ++ [c] := by
        rw [show i + 1 - p = (i - p) + 1 by omega, List.take_add_one, List.getElem?_drop, show p + (i - p) = i by omega, List.getElem?_eq_getElem hlt, hci]; rfl
      have hih := ih p (i + 1) n x3 (by omega) (by omega) hd2 (by
        rw [hpre]
        intro hm
        rcases List.mem_append.1 hm with hm | hm
        · exact hno hm
        · simp at hm; exact hc hm.symm) (by omega) hx
      rw [hpre, List.append_assoc, List.singleton_append] at hih
      have h2 := up (fun k => (brazierref5_Lines.mono_l k).1 ⟨L.toArray⟩ x3 (p : Int) (n : Int) ((i + 1 : Nat) : Int)) hih 8
      rw [hne, show 20 * q.length + 10 * (i - p) + 59 = (20 * q.length + 10 * (i + 1 - p) + 40 + 8) + 1 by omega, brazierref5_Lines.j1, if_pos rfl, hwi]
      exact h2
theorem ref_lines (s : ByteArray) (hs : s.size ≤ 100000) : brazierref5_Lines.f (20 * s.size + 40) s = some (s30L (outsL 0 (linesB s))) := by
  have hl : s.data.toList.length = s.size := by rw [Array.length_toList]; rfl
  have := ref_scan s.data.toList (by omega) s.data.toList 0 0 0 [] (Nat.le_refl _) (by omega) rfl (by simp) (Nat.le_refl _) (by simp)
  rw [hl] at this
  exact this
end Go.Proofs.YtkphijabhoppnaaGreatDoor
