/- A name's code (brazier/code.Kind): a map that is filled, and asked. -/
import Derived.Test.YtkphijabhoppnaaDoorBa
import Derived.Maps.OwnSet
import Derived.Maps.Own
import Derived.LoopTactic
import Derived.Test.YtkphijabhoppnaaDoorWWords
namespace Go.Proofs.YtkphijabhoppnaaDoor
open Go.RowKit Go.Maps Go.WideMaps
open Go.Proofs.YtkphijabhoppnaaDoorW.PrintWords (grown_of_below)
set_option linter.unusedSimpArgs false
set_option linter.unusedVariables false

/-- The map behind n rounds. -/
def kindD (H : Type) : Nat → DataW H
  | 0 => .map []
  | n + 1 => (kindD H n).put (.string (nmC n)) (.lit (.int .i64 n))
/-- The code of a name; and whether there is one: the least below n. -/
def kindTo (s : List UInt8) : Nat → Option Nat
  | 0 => none
  | n + 1 => if nmC n = s then some n else kindTo s n
def kindS (s : List UInt8) : Int × Bool := match kindTo s 41 with
  | some n => (n, true)
  | none => (0, false)

theorem kindD_map (H : Type) : ∀ n, IsMap (kindD H n)
  | 0 => isMap_empty
  | n + 1 => (kindD_map H n).put _ _
theorem kindD_has (H : Type) (s : List UInt8) : ∀ n, has (kindD H n) (.string s) = (kindTo s n).isSome
  | 0 => rfl
  | n + 1 => by
    by_cases h : nmC n = s
    · rw [kindD, kindTo, if_pos h, h, has_put_same (k := .string s) (kindD_map H n) (by exact trivial)]; rfl
    · rw [kindD, kindTo, if_neg h, has_put_other (by intro e; exact h (Lit.string.inj e).symm), kindD_has H s n]
theorem kindD_at (H : Type) (s : List UInt8) : ∀ n, (kindD H n).atKey (.string s) (.lit (.int .i64 0)) = .lit (.int .i64 (((kindTo s n).getD 0 : Nat) : Int))
  | 0 => rfl
  | n + 1 => by
    by_cases h : nmC n = s
    · rw [kindD, kindTo, if_pos h, h, atKey_put_same (k := .string s) (kindD_map H n) (by exact trivial)]; rfl
    · rw [kindD, kindTo, if_neg h, atKey_put_other (by intro e; exact h (Lit.string.inj e).symm), kindD_at H s n]

theorem law9 : Keyed Tryd.prog 9 := string_keyed Tryd.underlying9
theorem zero3 (w : World) : (zeroValue 3).run Tryd.prog w = .ok (.int .i64 0) w := by kernel_rfl
theorem nmC_size : ∀ n : Nat, n < 41 → (nmC n).length ≤ 8 := by decide +kernel
theorem key_name (n : Nat) (h : n < 41) : keyOf Tryd.prog 9 (.string ⟨(nmC n).toArray⟩) = some (.string (nmC n)) := by
  have := keyOf_string_mk (P := Tryd.prog) (k := 9) Tryd.underlying9 (s := ⟨(nmC n).toArray⟩) (by
    have := nmC_size n h
    show (nmC n).toArray.size ≤ maxLen
    simp only [List.size_toArray, maxLen]; omega)
  simpa using this

theorem num_wf (k : Nat) (h : k ≤ 41) : (Lit.int .i64 k).wf = true := by
  unfold Lit.wf
  have e1 : IntKind.i64.min = -9223372036854775808 := by rfl
  have e2 : IntKind.i64.max = 9223372036854775807 := by rfl
  simp only [Bool.and_eq_true, decide_eq_true_eq]
  omega
def KindPost (w : World) (s : List UInt8) (e : Ending) (w' : World) : Prop :=
  e = .returned (.tuple #[.int .i64 (kindS s).1, .bool (kindS s).2]) ∧ Below w.heap.size w w'

set_option maxRecDepth 100000 in
set_option maxHeartbeats 1000000 in
theorem kind_calls (s : ByteArray) (w : World) (hs : s.size ≤ maxLen) (hG : Glob w) : Calls Tryd.prog 23 #[.string s] w (KindPost w s.data.toList) := by
  have HG := Lib.hid hG
  have HS := Lib.hid hs
  clear hG hs
  have hmm := @run_makeMap Tryd.prog
  go_enter Tryd.func23, Tryd.ntmps23
  go_wp2_with fail
  go_loopw [5] (fun i wr => ∃ k : Nat, k ≤ 41 ∧ i = .int .i64 k ∧ wr.ownsMap Tryd.prog 9 (plainElem Tryd.prog 3) w.heap.size k (kindD Unit k) ∧ Below w.heap.size w wr)
    (fun i _ => 41 - (intOf i).toNat)
  case atStart => exact ⟨0, Nat.zero_le _, rfl, World.ownsMap_made _ _ _ _, (Below.refl _ _).alloc (Nat.le_refl _) _⟩
  case round =>
    obtain ⟨k, hk, rfl, hown, hnx⟩ := hrel
    have HO := Lib.hid hown
    have HN := Lib.hid hnx
    have hsz := hnx.size
    clear hown hnx
    by_cases hlt : k < 41
    · have hnm : nameC k = nmC k := by unfold nameC; rw [if_pos ⟨by omega, by omega⟩]
      have hkey := key_name k hlt
      have hcall : ∀ W, Below w.heap.size w W → Calls Tryd.prog 25 #[.int .i64 k] W fun e w' => e = .returned (.string ⟨(nmC k).toArray⟩) ∧ Below W.heap.size W w' := by
        intro W hW
        have := name_calls k W (HG.out.below hW)
        rw [hnm] at this
        exact this
      have HC := Lib.hid hcall
      have HK := Lib.hid hkey
      have hle : decide ((k : Int) ≤ 40) = true := by simp; omega
      clear hnm hkey hcall
      go_wp2_with (first | (go_at_call 25; refine (HC.out _ HN.out).mono ?_; rintro e w1 ⟨rfl, hb1⟩; have hown1 := HO.out.kept (grown_of_below hb1 none) (by simp); have HO1 := Lib.hid hown1; have hsz1 := hb1.size; have HN1 := Lib.hid (HN.out.trans (hb1.mono hsz)); clear hb1 hown1) | (at_mapUpdate; refine wpList_mapUpdate_own _ rfl _ _ _ 123 rfl 9 3 law9 Tryd.underlying123 _ w.heap.size k _ rfl HO1.out (by unfold maxLen; omega) _ _ _ rfl rfl HK.out _ [] (plainElem_int Tryd.underlying3 (num_wf k (by omega))) ?_; intro w2 hown2 hgrow2) | fail)
      have R1 := hown2
      have R2 := HN1.out.grown hgrow2 (by omega) (fun j hj => by cases hj; exact Nat.le_refl _)
      clear hown2 hgrow2
      go_wp2_with fail
      go_roundw
      case rel => exact ⟨k + 1, by omega, by go_num, R1, R2⟩
      case measure => simp [intOf]; omega
    · obtain rfl : k = 41 := by omega
      have hle : decide (((41 : Nat) : Int) ≤ 40) = false := by simp
      have hks := keyOf_string_mk (P := Tryd.prog) (k := 9) Tryd.underlying9 HS.out
      have HK := Lib.hid hks
      clear hks
      go_wp2_with (first | (at_lookup; refine wpList_lookup_own_ok_int _ rfl _ _ 123 rfl 9 3 .i64 law9 Tryd.underlying123 Tryd.underlying3 (zero3 _) w.heap.size 41 _ rfl HO.out _ _ rfl HK.out ?_; intro c hat hwc; rw [kindD_at] at hat; rw [kindD_has]; have HA := Lib.hid hat; clear hat hwc) | fail)
      go_ret2
      refine ⟨?_, HN.out⟩
      have hc : c = ((kindTo s.data.toList 41).getD 0 : Nat) := by
        have := HA.out
        simp only [DataW.lit.injEq, Lit.int.injEq, true_and] at this
        exact this.symm
      rw [hc]
      unfold kindS
      cases kindTo s.data.toList 41 <;> rfl
end Go.Proofs.YtkphijabhoppnaaDoor
