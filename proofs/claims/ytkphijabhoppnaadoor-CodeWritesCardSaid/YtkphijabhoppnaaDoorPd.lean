/- CodeWrites, walked: it returns true, whatever the bytecode, the code and the name. -/
import Derived.Test.YtkphijabhoppnaaDoorQc
import Derived.Test.YtkphijabhoppnaaDoorPb
namespace Go.Proofs.YtkphijabhoppnaaDoor
open Go.RowKit Go.Proofs.YtkphijabhoppnaaDoorW.PrintWords
set_option linter.unusedSimpArgs false
set_option linter.unusedVariables false

theorem cellsW {W : World} {g : Nat} {x y z t : Value} {q : TypeId} {fr : Nat × Nat} (h : W.heap[g]? = some (Obj.cells #[x, y, z, t] q fr)) :
    W.cell? ⟨g, 0, none⟩ = some x ∧ W.cell? ⟨g, 1, none⟩ = some y ∧ W.cell? ⟨g, 2, none⟩ = some z ∧ W.cell? ⟨g, 3, none⟩ = some t :=
  ⟨(cell_of_row _ _ 0 _ _ _ h).trans rfl, (cell_of_row _ _ 1 _ _ _ h).trans rfl, (cell_of_row _ _ 2 _ _ _ h).trans rfl, (cell_of_row _ _ 3 _ _ _ h).trans rfl⟩
theorem rwrite_calls (c a b s : Int) (w : World) : Calls Tryd.prog 22 #[.agg #[.int .i64 c, .int .i64 a, .int .i64 b, .int .i64 s]] w fun e w' => ∃ v' : Value, e = .returned (.tuple #[v', .int .i64 (writeS c a b).2]) ∧
    w'.ownsRow w.heap.size 5 1 v' (writeS c a b).1.length (nums .u8 (writeS c a b).1) ∧ Below w.heap.size w w' := by
  refine (PCodeWrites.brazierref13_Write.calls 4 c a b s _ _ w (ref_write 0 c a b s)).mono ?_
  rintro e w' ⟨v, rfl, hr, hb⟩
  exact ⟨v, rfl, Kd.own_of_R hr, hb⟩
theorem of_callsW (a b c d : Int) (w : World) : Calls Tryd.prog 15 #[.agg #[.int .i64 a, .int .i64 b, .int .i64 c, .int .i64 d]] w fun e w' => e = .returned (.agg #[.int .i64 a, .int .i64 b, .int .i64 c, .int .i64 d]) ∧ Below w.heap.size w w' :=
  PCodeReads.brazierlaw13_of.calls a b c d a b c d w rfl

set_option maxRecDepth 100000 in
set_option maxHeartbeats 2000000 in
theorem writesLaw_calls (o0 o1 o2 o3 c : Int) (s : ByteArray) (w : World) (hs : s.size ≤ maxLen) (hG : Glob w) :
    Calls Tryd.prog 5 #[.agg #[.int .i64 o0, .int .i64 o1, .int .i64 o2, .int .i64 o3], .int .i64 c, .string s] w (TruePost w) := by
  obtain ⟨⟨wl, we⟩, hw⟩ : ∃ p, writeS o0 o1 o2 = p := ⟨_, rfl⟩
  obtain ⟨⟨ki, kb⟩, hk⟩ : ∃ p, kindS s.data.toList = p := ⟨_, rfl⟩
  obtain ⟨nm, hn⟩ : ∃ nm, baL (nameC c) = nm := ⟨_, rfl⟩
  have hW1 : ∀ W, Glob W → Calls Tryd.prog 21 #[.agg #[.int .i64 o0, .int .i64 o1, .int .i64 o2, .int .i64 o3]] W fun e w' => ∃ v' : Value, e = .returned (.tuple #[v', .int .i64 we]) ∧ w'.ownsRow W.heap.size 5 1 v' wl.length (nums .u8 wl) ∧ Below W.heap.size W w' := fun W h => by
    have := write_calls o0 o1 o2 o3 W h
    rw [hw] at this
    exact this
  have hW2 : ∀ W, Calls Tryd.prog 22 #[.agg #[.int .i64 o0, .int .i64 o1, .int .i64 o2, .int .i64 o3]] W fun e w' => ∃ v' : Value, e = .returned (.tuple #[v', .int .i64 we]) ∧ w'.ownsRow W.heap.size 5 1 v' wl.length (nums .u8 wl) ∧ Below W.heap.size W w' := fun W => by
    have := rwrite_calls o0 o1 o2 o3 W
    rw [hw] at this
    exact this
  have hK1 : ∀ W, Glob W → Calls Tryd.prog 23 #[.string s] W fun e w' => e = .returned (.tuple #[.int .i64 ki, .bool kb]) ∧ Below W.heap.size W w' := fun W h => by
    have := kind_calls s W hs h
    unfold KindPost at this
    rw [hk] at this
    exact this
  have hK2 : ∀ W, Calls Tryd.prog 24 #[.string s] W fun e w' => e = .returned (.tuple #[.int .i64 ki, .bool kb]) ∧ Below W.heap.size W w' := fun W =>
    PCodeWrites.brazierref13_Kind.calls 42 s ki kb W (by rw [ref_kind, hk])
  have hN1 : ∀ W, Glob W → Calls Tryd.prog 25 #[.int .i64 c] W fun e w' => e = .returned (.string nm) ∧ Below W.heap.size W w' := fun W h => hn ▸ name_calls c W h
  have hN2 : ∀ W, Calls Tryd.prog 26 #[.int .i64 c] W fun e w' => e = .returned (.string nm) ∧ Below W.heap.size W w' := fun W => hn ▸ PCodeWrites.brazierref13_Name.calls c _ W (w_name_any c)
  have hB0 : Below w.heap.size w (w.alloc (.cells #[.int .i64 o0, .int .i64 o1, .int .i64 o2, .int .i64 o3] 25)) := (Below.refl _ w).alloc (Nat.le_refl _) _
  have r0 := heap_alloc_new w (.cells #[.int .i64 o0, .int .i64 o1, .int .i64 o2, .int .i64 o3] 25)
  have HW1 := Lib.hid hW1
  have HW2 := Lib.hid hW2
  have HK1 := Lib.hid hK1
  have HK2 := Lib.hid hK2
  have HN1 := Lib.hid hN1
  have HN2 := Lib.hid hN2
  have HG := Lib.hid hG
  clear hW1 hW2 hK1 hK2 hN1 hN2 hG hw hk hn hs
  go_enter Tryd.func5, Tryd.ntmps5
  go_wp2_with fail
  obtain ⟨W0, hW0⟩ : ∃ W0, w.alloc (.cells #[.int .i64 o0, .int .i64 o1, .int .i64 o2, .int .i64 o3] 25) = W0 := ⟨_, rfl⟩
  rw [hW0] at hB0 r0 ⊢
  clear hW0
  have HB0 := Lib.hid hB0
  have R0 := Lib.hid r0
  have GK : ∀ W, Below W0.heap.size W0 W → Glob W ∧ Below w.heap.size w W := fun W h => ⟨HG.out.below (HB0.out.trans (h.mono HB0.out.size)), HB0.out.trans (h.mono HB0.out.size)⟩
  have GK := Lib.hid GK
  clear hB0 r0
  refine (known_calls _ (GK.out _ (Below.refl _ _)).1).mono ?_
  rintro e w1 ⟨rfl, hb1⟩
  obtain ⟨a0, a1, a2, a3⟩ := cellsW (row_kept hb1 R0.out)
  have HB1 := Lib.hid hb1
  clear hb1
  go_wp2_with fail
  refine (HW1.out _ (GK.out _ HB1.out).1).mono ?_
  rintro e w2 ⟨v2, rfl, ho2, hb2⟩
  have HO2 := Lib.hid ho2
  have HB2 := Lib.hid (HB1.out.trans (hb2.mono HB1.out.size))
  clear ho2 hb2 a0 a1 a2 a3
  obtain ⟨a0, a1, a2, a3⟩ := cellsW (row_kept HB2.out R0.out)
  go_wp2_with fail
  refine (of_callsW _ _ _ _ _).mono ?_
  rintro e w3 ⟨rfl, hb3⟩
  have HO3 := Lib.hid (pw_own_below HO2.out hb3)
  have HB3 := Lib.hid (HB2.out.trans (hb3.mono HB2.out.size))
  clear hb3 a0 a1 a2 a3
  go_wp2_with fail
  refine (HW2.out _).mono ?_
  rintro e w4 ⟨v4, rfl, ho4, hb4⟩
  have HO4 := Lib.hid (pw_own_below HO3.out hb4)
  have HP4 := Lib.hid ho4
  have HB4 := Lib.hid (HB3.out.trans (hb4.mono HB3.out.size))
  clear hb4 ho4
  go_wp2_with fail
  refine (HK1.out _ (GK.out _ HB4.out).1).mono ?_
  rintro e w5 ⟨rfl, hb5⟩
  have HO5 := Lib.hid (pw_own_below HO4.out hb5)
  have HP5 := Lib.hid (pw_own_below HP4.out hb5)
  have HB5 := Lib.hid (HB4.out.trans (hb5.mono HB4.out.size))
  clear hb5
  go_wp2_with fail
  refine (HK2.out _).mono ?_
  rintro e w6 ⟨rfl, hb6⟩
  have ho6 := pw_own_below HO5.out hb6
  have hp6 := pw_own_below HP5.out hb6
  have s1 : (convert 22 9 v2).run Tryd.prog w6 = .ok (.string (strOfNums wl)) w6 := own_string Tryd.underlying22 Tryd.underlying5 Tryd.underlying9 ho6
  have s2 : (convert 22 9 v4).run Tryd.prog w6 = .ok (.string (strOfNums wl)) w6 := own_string Tryd.underlying22 Tryd.underlying5 Tryd.underlying9 hp6
  generalize strOfNums wl = S at s1 s2
  have HB6 := Lib.hid (HB5.out.trans (hb6.mono HB5.out.size))
  clear hb6 ho6 hp6
  go_wp2_with (first | (go_at_call 25; refine (HN1.out _ (GK.out _ HB6.out).1).mono ?_; rintro e w7 ⟨rfl, hb7⟩; have HB7 := Lib.hid (HB6.out.trans (hb7.mono HB6.out.size)); clear hb7) | (go_at_call 26; refine (HN2.out _).mono ?_; rintro e w8 ⟨rfl, hb8⟩; have HB8 := Lib.hid (HB7.out.trans (hb8.mono HB7.out.size)); clear hb8) | fail)
  go_ret
  exact ⟨rfl, (GK.out _ HB8.out).2⟩
end Go.Proofs.YtkphijabhoppnaaDoor
