/- CodeBack, walked: it returns true, whatever the bytecode and the bytes. -/
import Derived.Test.YtkphijabhoppnaaDoorUa
import Derived.Test.YtkphijabhoppnaaDoorSg
import Derived.Test.YtkphijabhoppnaaDoorSh
namespace Go.Proofs.YtkphijabhoppnaaDoor
open Go.RowKit Go.Proofs.YtkphijabhoppnaaDoorW.PrintWords
set_option linter.unusedSimpArgs false
set_option linter.unusedVariables false

theorem cellsU {W : World} {g : Nat} {x y z t : Value} {q : TypeId} {fr : Nat × Nat} (h : W.heap[g]? = some (Obj.cells #[x, y, z, t] q fr)) :
    W.cell? ⟨g, 0, none⟩ = some x ∧ W.cell? ⟨g, 1, none⟩ = some y ∧ W.cell? ⟨g, 2, none⟩ = some z ∧ W.cell? ⟨g, 3, none⟩ = some t :=
  ⟨(cell_of_row _ _ 0 _ _ _ h).trans rfl, (cell_of_row _ _ 1 _ _ _ h).trans rfl, (cell_of_row _ _ 2 _ _ _ h).trans rfl, (cell_of_row _ _ 3 _ _ _ h).trans rfl⟩
theorem byte2 {x y : Int} (hx : 0 ≤ x ∧ x ≤ 255) (hy : 0 ≤ y ∧ y ≤ 255) : ∀ z ∈ [x, y], 0 ≤ z ∧ z ≤ 255 := by
  intro z hz
  rcases List.mem_cons.1 hz with rfl | hz
  · exact hx
  · rcases List.mem_cons.1 hz with rfl | hz
    · exact hy
    · cases hz
theorem writeS_byte (c a b : Int) : ∀ x ∈ (writeS c a b).1, 0 ≤ x ∧ x ≤ 255 := by
  unfold writeS
  split
  · rename_i hc
    have h0 : 0 ≤ c ∧ c ≤ 255 := by omega
    have nil : ∀ x ∈ ([] : List Int), 0 ≤ x ∧ x ≤ 255 := fun x hx => by cases hx
    have cons : ∀ {x : Int} {l : List Int}, (0 ≤ x ∧ x ≤ 255) → (∀ z ∈ l, 0 ≤ z ∧ z ≤ 255) → ∀ z ∈ x :: l, 0 ≤ z ∧ z ≤ 255 := fun hx hl z hz => by
      rcases List.mem_cons.1 hz with rfl | hz
      · exact hx
      · exact hl z hz
    rcases opk_le c with hk | hk | hk | hk | hk <;> rw [hk] <;> simp only [writeK] <;> split
    · exact cons h0 nil
    · exact nil
    · rename_i h; exact cons h0 (cons h.1 nil)
    · exact nil
    · exact cons h0 (cons (by omega) nil)
    · exact nil
    · exact cons h0 (cons (by omega) (cons (by omega) nil))
    · exact nil
    · rename_i h; exact cons h0 (cons h.1 (cons h.2 nil))
    · exact nil
  · intro x hx; cases hx
/-- A row of the call's own, as bytes. -/
theorem byt_own {w : World} {base : Nat} {v : Value} {l : List Int} (h : w.ownsRow base 5 1 v l.length (nums .u8 l)) (hby : ∀ x ∈ l, 0 ≤ x ∧ x ≤ 255) : Byt w v l := by
  have hc : ∀ g cap, v = .slice (some ⟨g, 0, none⟩) l.length cap → ∀ j, j < l.length → w.cell? ⟨g, 0 + j, none⟩ = some (.int .u8 (l.getD j 0)) := by
    rintro g cap rfl j hj
    rw [Nat.zero_add, h.cellAt j (by omega)]
    simp [nums, hj]
  rcases h.2 with ⟨rfl, h0⟩ | ⟨g, cap, cur, rfl, -, -, h1, h2, -⟩
  · obtain rfl : l = [] := List.length_eq_zero_iff.1 h0
    exact ⟨none, 0, rfl, by simp, by omega, hby, fun h => absurd rfl h⟩
  · exact ⟨_, cap, rfl, h1, by unfold maxLen at h2; omega, hby, fun _ => ⟨g, 0, rfl, hc g cap rfl⟩⟩
theorem byt_string {w : World} {v : Value} {l : List Int} (h : Byt w v l) : (convert 22 9 v).run Tryd.prog w = .ok (.string (strOfNums l)) w := by
  obtain ⟨A, c, rfl, -, -, -, h4⟩ := h
  by_cases hl : l = []
  · subst hl
    rw [run_convert_bytes_string w 22 9 5 _ _ c Tryd.underlying22 Tryd.underlying5 Tryd.underlying9]
    cases A <;> simp [Conv.bytesToString, loadCells]
    all_goals rfl
  · obtain ⟨b, off, rfl, hc⟩ := h4 hl
    exact run_convert_bytes_arg w 22 5 Tryd.underlying22 Tryd.underlying5 b off l.length c l rfl hc 9 Tryd.underlying9

theorem backLaw_long (o0 o1 o2 o3 : Int) (A : Option Addr) (n c : Nat) (w : World) (hn : 4000 < n) (hG : Glob w) : Calls Tryd.prog 10 #[.agg #[.int .i64 o0, .int .i64 o1, .int .i64 o2, .int .i64 o3], .slice A n c] w (TruePost w) := by
  have hB0 : Below w.heap.size w (w.alloc (.cells #[.int .i64 o0, .int .i64 o1, .int .i64 o2, .int .i64 o3] 25)) := (Below.refl _ w).alloc (Nat.le_refl _) _
  have HK := Lib.hid (known_calls _ (hG.below hB0))
  have HB := Lib.hid hB0
  clear hG hB0
  have ht : decide (4000 < (n : Int)) = true := by simp; omega
  go_enter Tryd.func10, Tryd.ntmps10
  go_wp2_with (first | (go_at_call 12; refine HK.out.mono ?_; rintro e w1 ⟨rfl, hb1⟩) | fail)
  go_ret
  exact ⟨rfl, HB.out.trans (hb1.mono HB.out.size)⟩

set_option maxRecDepth 100000 in
set_option maxHeartbeats 2000000 in
theorem backLaw_ok (o0 o1 o2 o3 : Int) (v : Value) (l : List Int) (w : World) (hl : l.length ≤ 4000) (hb : Byt w v l) (hG : GlobP w) : Calls Tryd.prog 10 #[.agg #[.int .i64 o0, .int .i64 o1, .int .i64 o2, .int .i64 o3], v] w (TruePost w) := by
  obtain ⟨⟨wl, we⟩, hw⟩ : ∃ p, writeS o0 o1 o2 = p := ⟨_, rfl⟩
  obtain ⟨⟨tx, te⟩, htx⟩ : ∃ p, textS l = p := ⟨_, rfl⟩
  obtain ⟨A, c, rfl, hb2⟩ := id hb
  have hby := hb2.2.2.1
  clear hb2
  have hW1 : ∀ W, Glob W → Calls Tryd.prog 21 #[.agg #[.int .i64 o0, .int .i64 o1, .int .i64 o2, .int .i64 o3]] W fun e w' => ∃ (A' : Option Addr) (c' : Nat), e = .returned (.tuple #[.slice A' wl.length c', .int .i64 we]) ∧ Byt w' (.slice A' wl.length c') wl ∧ Below W.heap.size W w' := fun W h => by
    have := write_calls o0 o1 o2 o3 W h
    rw [hw] at this
    refine this.mono ?_
    rintro e w' ⟨v, rfl, hr, hbl⟩
    obtain ⟨A', c', rfl⟩ := own_slice hr
    have hbb := writeS_byte o0 o1 o2
    rw [hw] at hbb
    exact ⟨A', c', rfl, byt_own hr hbb, hbl⟩
  have hR : we = 0 → ∀ W A' c', Glob W → Byt W (.slice A' wl.length c') wl → Calls Tryd.prog 13 #[.slice A' wl.length c', .int .i64 0] W fun e w' => e = .returned (.tuple #[.agg #[.int .i64 o0, .int .i64 o1, .int .i64 o2, .int .i64 wl.length], .int .i64 0]) ∧ Below W.heap.size W w' := fun h0 W A' c' h1 h2 => by
    have h3 := read_write o0 o1 o2 (by rw [hw]; exact h0)
    rw [hw] at h3
    have := read_calls (.slice A' wl.length c') wl 0 W h1 h2
    rw [show readS wl 0 = _ from h3] at this
    exact this
  have hT : ∀ W, Glob W → Byt W (.slice A l.length c) l → Calls Tryd.prog 18 #[.slice A l.length c] W fun e w' => e = .returned (.tuple #[.string (strB tx), .int .i64 te]) ∧ Below W.heap.size W w' := fun W h1 h2 => by
    have := text_calls (.slice A l.length c) l W (by omega) h2 h1
    unfold TxPost at this
    rw [htx] at this
    exact this
  have hP : te = 0 → ∀ W, GlobP W → Calls Tryd.prog 37 #[.string (strB tx)] W (ParsePost W (l, 0, 0)) := fun h0 W h1 => by
    have h3 := parse_text l hby (by omega) (by rw [htx]; exact h0)
    have h4 := text_small l hby (by omega)
    rw [htx] at h3 h4
    have h5 : (strB tx).size ≤ 100000 := by
      show tx.toArray.size ≤ _
      rw [List.size_toArray]
      dsimp only at h4
      omega
    have := parse_calls (strB tx) W h5 h1
    rw [show parseS (strB tx) = _ from h3] at this
    exact this
  have hB0 : Below w.heap.size w (w.alloc (.cells #[.int .i64 o0, .int .i64 o1, .int .i64 o2, .int .i64 o3] 25)) := (Below.refl _ w).alloc (Nat.le_refl _) _
  have r0 := heap_alloc_new w (.cells #[.int .i64 o0, .int .i64 o1, .int .i64 o2, .int .i64 o3] 25)
  have HW1 := Lib.hid hW1
  have HR := Lib.hid hR
  have HT := Lib.hid hT
  have HP := Lib.hid hP
  have HG := Lib.hid hG
  have HBY := Lib.hid hb
  generalize strB tx = txt at HT HP
  have ht : decide (4000 < (l.length : Int)) = false := by simp; omega
  clear hW1 hR hT hP hG hw htx hb hby hl
  go_enter Tryd.func10, Tryd.ntmps10
  go_wp2_with fail
  obtain ⟨W0, hW0⟩ : ∃ W0, w.alloc (.cells #[.int .i64 o0, .int .i64 o1, .int .i64 o2, .int .i64 o3] 25) = W0 := ⟨_, rfl⟩
  rw [hW0] at hB0 r0 ⊢
  clear hW0
  have HB0 := Lib.hid hB0
  have R0 := Lib.hid r0
  have GK : ∀ W, Below W0.heap.size W0 W → GlobP W ∧ Below w.heap.size w W ∧ Byt W (.slice A l.length c) l := fun W h => ⟨HG.out.below (HB0.out.trans (h.mono HB0.out.size)), HB0.out.trans (h.mono HB0.out.size), HBY.out.below (HB0.out.trans (h.mono HB0.out.size))⟩
  have GK := Lib.hid GK
  clear hB0 r0
  refine (known_calls _ (GK.out _ (Below.refl _ _)).1.g).mono ?_
  rintro e w1 ⟨rfl, hb1⟩
  obtain ⟨a0, a1, a2, a3⟩ := cellsU (row_kept hb1 R0.out)
  have HB1 := Lib.hid hb1
  clear hb1
  go_wp2_with fail
  refine (HW1.out _ (GK.out _ HB1.out).1.g).mono ?_
  rintro e w2 ⟨A2, c2, rfl, hy2, hb2⟩
  have HY2 := Lib.hid hy2
  have HB2 := Lib.hid (HB1.out.trans (hb2.mono HB1.out.size))
  clear hy2 hb2 a0 a1 a2 a3
  obtain ⟨a0, a1, a2, a3⟩ := cellsU (row_kept HB2.out R0.out)
  by_cases hwe : we = 0
  · have HR2 := Lib.hid (HR.out hwe)
    have hwe1 : (we == 0) = true := by rw [hwe]; rfl
    have HWE := Lib.hid hwe
    clear hwe
    go_wp2_with fail
    refine (HR2.out _ _ _ (GK.out _ HB2.out).1.g HY2.out).mono ?_
    rintro e w3 ⟨rfl, hb3⟩
    have HB3 := Lib.hid (HB2.out.trans (hb3.mono HB2.out.size))
    clear hb3 a0 a1 a2 a3
    obtain ⟨a0, a1, a2, a3⟩ := cellsU (row_kept HB3.out R0.out)
    have hWl : w.heap.size < w3.heap.size := block_lt_of_cell a0
    go_wp2_with fail
    have HB3' := Lib.hid (HB3.out.alloc HB3.out.size (.cells #[.int .i64 o0, .int .i64 o1, .int .i64 o2, .int .i64 wl.length] 25))
    refine (HT.out _ (GK.out _ HB3'.out).1.g (GK.out _ HB3'.out).2.2).mono ?_
    rintro e w4 ⟨rfl, hb4⟩
    have HB4 := Lib.hid ((HB3'.out).trans (hb4.mono (HB3'.out).size))
    clear hb4
    by_cases hte : te = 0
    · have HP2 := Lib.hid (HP.out hte)
      have hte1 : (te != 0) = false := by rw [hte]; rfl
      have HTE := Lib.hid hte
      clear hte
      go_wp2_with fail
      refine (HP2.out _ (GK.out _ HB4.out).1).mono ?_
      rintro e w5 ⟨v5, rfl, ho5, hb5⟩
      have HB5 := Lib.hid (HB4.out.trans (hb5.mono HB4.out.size))
      have s1 : (convert 22 9 v5).run Tryd.prog w5 = .ok (.string (strOfNums l)) w5 := own_string Tryd.underlying22 Tryd.underlying5 Tryd.underlying9 ho5
      have s2 : (convert 22 9 (.slice A l.length c)).run Tryd.prog w5 = .ok (.string (strOfNums l)) w5 := byt_string (GK.out _ HB5.out).2.2
      generalize strOfNums l = S at s1 s2
      clear ho5 hb5
      dsimp only
      go_wp2_with fail
      go_ret
      exact ⟨rfl, (GK.out _ HB5.out).2.1⟩
    · have hte1 : (te != 0) = true := by simpa using hte
      clear hte
      go_wp2_with fail
      go_ret
      exact ⟨rfl, (GK.out _ HB4.out).2.1⟩
  · have hne : (we == 0) = false := by simpa using hwe
    clear hwe
    go_wp2_with fail
    refine (HT.out _ (GK.out _ HB2.out).1.g (GK.out _ HB2.out).2.2).mono ?_
    rintro e w4 ⟨rfl, hb4⟩
    have HB4 := Lib.hid ((HB2.out).trans (hb4.mono (HB2.out).size))
    clear hb4
    by_cases hte : te = 0
    · have HP2 := Lib.hid (HP.out hte)
      have hte1 : (te != 0) = false := by rw [hte]; rfl
      have HTE := Lib.hid hte
      clear hte
      go_wp2_with fail
      refine (HP2.out _ (GK.out _ HB4.out).1).mono ?_
      rintro e w5 ⟨v5, rfl, ho5, hb5⟩
      have HB5 := Lib.hid (HB4.out.trans (hb5.mono HB4.out.size))
      have s1 : (convert 22 9 v5).run Tryd.prog w5 = .ok (.string (strOfNums l)) w5 := own_string Tryd.underlying22 Tryd.underlying5 Tryd.underlying9 ho5
      have s2 : (convert 22 9 (.slice A l.length c)).run Tryd.prog w5 = .ok (.string (strOfNums l)) w5 := byt_string (GK.out _ HB5.out).2.2
      generalize strOfNums l = S at s1 s2
      clear ho5 hb5
      dsimp only
      go_wp2_with fail
      go_ret
      exact ⟨rfl, (GK.out _ HB5.out).2.1⟩
    · have hte1 : (te != 0) = true := by simpa using hte
      clear hte
      go_wp2_with fail
      go_ret
      exact ⟨rfl, (GK.out _ HB4.out).2.1⟩
theorem backLaw_calls (o0 o1 o2 o3 : Int) (v : Value) (l : List Int) (w : World) (hb : Byt w v l) (hG : GlobP w) : Calls Tryd.prog 10 #[.agg #[.int .i64 o0, .int .i64 o1, .int .i64 o2, .int .i64 o3], v] w (TruePost w) := by
  by_cases h : 4000 < l.length
  · obtain ⟨A, c, rfl, -⟩ := hb
    exact backLaw_long o0 o1 o2 o3 A _ c w h hG.g
  · exact backLaw_ok o0 o1 o2 o3 v l w (by omega) hb hG
end Go.Proofs.YtkphijabhoppnaaDoor
