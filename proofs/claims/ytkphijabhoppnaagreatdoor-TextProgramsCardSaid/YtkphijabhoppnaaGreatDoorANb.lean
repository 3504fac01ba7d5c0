/- The reference's text of instructions is the text. -/
import Derived.Test.YtkphijabhoppnaaGreatDoorAMe
import Derived.Test.YtkphijabhoppnaaGreatDoorALg
import Derived.Test.YtkphijabhoppnaaGreatDoorALi
import Derived.Lib.LazyBuf
namespace Go.Proofs.YtkphijabhoppnaaGreatDoor
open Go.Lib Go.RowKit Go.Proofs.YtkphijabhoppnaaGreatDoorW.PrintWords
open Go.Proofs.YtkphijabhoppnaaGreatDoor.PTextPrograms
set_option linter.unusedSimpArgs false
set_option linter.unusedVariables false
def s39 (i : IR) : S39 := ⟨i.op, i.d, i.n, i.m, i.a, i.cond, i.imm⟩
theorem rd_s39 (l : List IR) (j : Nat) (h : j < l.length) : rd_T39 (l.map s39) (j : Int) = s39 (l[j]'h) := by
  unfold rd_T39
  rw [Int.toNat_natCast, List.getD_eq_getElem?_getD, List.getElem?_map, List.getElem?_eq_getElem h]
  rfl
def intsB (t : List UInt8) : List Int := t.map fun b => (b.toNat : Int)
theorem intsB_app (a b : List UInt8) : intsB (a ++ b) = intsB a ++ intsB b := by simp [intsB]
theorem ref_print_l (l : List IR) (hl : l.length ≤ 100000) : ∀ (m j : Nat), j + m = l.length →
    brazierref5_Print.l0 (80 + m + 1) (l.map s39) (intsB (textP (l.take j))) (j : Int) = some ⟨(textP l).toArray⟩ := by
  intro m
  induction m with
  | zero =>
    intro j hj
    rw [brazierref5_Print.l0, if_neg (by rw [List.length_map]; omega), List.take_of_length_le (by omega)]
    unfold intsB; rw [Go.Lib.Lz.strOfNums_map]
  | succ m ih =>
    intro j hj
    have hlt : j < l.length := by omega
    have hw : wrap64 ((j : Int) + 1) = ((j + 1 : Nat) : Int) := by unfold wrap64; omega
    have hT : textP (l.take (j + 1)) = textP (l.take j) ++ lineP (l[j]'hlt) := by rw [List.take_add_one, List.getElem?_eq_getElem hlt, Option.toList, textP_snoc]
    have hih := ih (j + 1) (by omega)
    have h1 := textP_len (l.take j)
    have h2 : (l.take j).length ≤ 100000 := by rw [List.length_take]; omega
    have h3 := insS_len (l[j]'hlt)
    have hi : brazierref5_Ins.f (80 + (m + 1)) (s39 (l[j]'hlt)).f0 (s39 (l[j]'hlt)).f1 (s39 (l[j]'hlt)).f2 (s39 (l[j]'hlt)).f3 (s39 (l[j]'hlt)).f4 (s39 (l[j]'hlt)).f5 (s39 (l[j]'hlt)).f6 = some ⟨(insS (l[j]'hlt)).toArray⟩ := by
      rw [show 80 + (m + 1) = (m + 1) + 80 by omega]; exact ref_ins (l[j]'hlt) (m + 1)
    have hlen : (intsB (textP (l.take j))).length = (textP (l.take j)).length := by simp [intsB]
    rw [brazierref5_Print.l0, if_pos (by rw [List.length_map]; omega), if_pos (by omega), rd_s39 l j hlt, hi, Option.bind_some, hw]
    by_cases hne : insS (l[j]'hlt) = []
    · rw [hT, lineP, if_pos hne, List.append_nil] at hih
      rw [if_pos (by rw [be_list, hne])]
      exact hih
    · rw [hT, lineP, if_neg hne] at hih
      have hb : bytesOf (⟨(insS (l[j]'hlt)).toArray⟩ : ByteArray) = intsB (insS (l[j]'hlt)) := rfl
      have hbl : (intsB (insS (l[j]'hlt))).length = (insS (l[j]'hlt)).length := by simp [intsB]
      rw [if_neg (by rw [be_list]; exact hne), if_pos (by rw [ba_sz, hlen]; omega), Option.bind_some, hb, if_pos (by rw [List.length_append, hlen, hbl]; omega)]
      rw [intsB_app, intsB_app] at hih
      rw [List.append_assoc]
      exact hih
theorem ref_print (l : List IR) (hl : l.length ≤ 100000) : brazierref5_Print.f (80 + l.length + 1) (l.map s39) = some ⟨(textP l).toArray⟩ :=
  ref_print_l l hl l.length 0 (by omega)
theorem inss_C {W : World} {v : Value} {l : List IR} (h : Inss W v l) (hl : l.length ≤ 100000) : ∃ A c, v = .slice A l.length c ∧ Kd.C k39 W A l.length (l.map s39) := by
  obtain ⟨A, c, rfl, h⟩ := h
  refine ⟨A, c, rfl, by rw [List.length_map], by omega, fun hn => ?_⟩
  obtain ⟨b, off, rfl, h2⟩ := h (fun e => by rw [e] at hn; simp at hn)
  refine ⟨_, rfl, fun j x hj => ?_⟩
  rw [List.getElem?_map] at hj
  obtain ⟨i, hi, rfl⟩ := Option.map_eq_some_iff.1 hj
  have h3 := h2 j i hi
  refine ⟨(irC i).toList, rfl, k39_mk W (s39 i), fun k u hk => ?_⟩
  have := h3 k u (by rw [← Array.getElem?_toList]; exact hk)
  have ha : (⟨b, off, none⟩ : Addr).add (j * 7 + k) = ⟨b, off + j * 7 + k, none⟩ := by
    unfold Addr.add
    split
    · rename_i h0; rw [show off + j * 7 + k = off by omega]
    · dsimp only; rw [Nat.add_assoc]
  show W.cell? ((⟨b, off, none⟩ : Addr).add (j * 7 + k)) = some u
  rw [ha]
  exact this
theorem RPrint_calls (v : Value) (l : List IR) (w : World) (hv : Inss w v l) (hl : l.length ≤ 100000) (hc : ∀ A n c, v = .slice A n c → n ≤ c) : Calls Tryz.prog 9 #[v] w fun e w' => e = .returned (.string ⟨(textP l).toArray⟩) ∧ Below w.heap.size w w' := by
  obtain ⟨A, c, rfl, hC⟩ := inss_C hv hl
  have := brazierref5_Print.calls (80 + l.length + 1) A c (l.map s39) _ w (by rw [List.length_map]; exact hC) (by rw [List.length_map]; exact hc _ _ _ rfl) (ref_print l hl)
  rw [List.length_map] at this
  exact this
end Go.Proofs.YtkphijabhoppnaaGreatDoor
