/- What a bytecode takes and puts (brazier/verify.moves). -/
import Derived.Test.YtkphijabhoppnaaDoorAVb
import Derived.Outline
namespace Go.Proofs.YtkphijabhoppnaaDoor
open Go.RowKit Go.Proofs.YtkphijabhoppnaaDoorW.PrintWords
set_option linter.unusedSimpArgs false
set_option linter.unusedVariables false
def movesS (p : Pg) (m : Meth) (c a b : Int) : List Int × List Int :=
  if c = 1 ∨ c = 2 then ([], [1])
  else if c = 3 ∨ c = 29 then ([], [2])
  else if c = 4 then ([], [(localS m a).1])
  else if c = 5 then ([(localS m a).1], [])
  else if c = 20 then ([1], [1])
  else if c = 23 then ([2, 2], [1])
  else if c = 24 ∨ c = 35 ∨ c = 38 then ([2], [1])
  else if c = 26 ∨ c = 39 ∨ c = 40 then ([1], [])
  else if c = 27 then ((methS p a).f0, voidS (methS p a).f1)
  else if c = 28 then (voidS m.f1, [])
  else if c = 30 then ([2], [(fieldS p a b).1])
  else if c = 31 then ([2, (fieldS p a b).1], [])
  else if c = 32 then ([1], [2])
  else if c = 33 then ([2, 1], [a])
  else if c = 34 then ([2, 1, a], [])
  else if c = 36 ∨ c = 37 then ([2], [])
  else if 9 ≤ c ∧ c ≤ 22 then ([1, 1], [1])
  else ([], [])
def RI (w : World) (v : Value) (l : List Int) : Prop := ∃ A c, v = .slice A l.length c ∧ l.length ≤ c ∧ Kd.C (Kd.int .i64) w A l.length l
theorem RI.below {w w1 : World} {v : Value} {l : List Int} (h : RI w v l) (hb : Below w.heap.size w w1) : RI w1 v l := by
  obtain ⟨A, c, h1, h2, h3⟩ := h
  exact ⟨A, c, h1, h2, Kd.C_below h3 hb⟩
theorem RI.of_own {w : World} {base : Nat} {v : Value} {l : List Int} (h : w.ownsRow base 3 1 v l.length (nums .i64 l)) : RI w v l := by
  obtain ⟨A, c, h1, h2, h3⟩ := Kd.R_reads (Kd.R_of_own (ok := fun _ => True) (enc := Value.int .i64) (h1 := fun _ => rfl) h (fun _ _ => trivial))
  exact ⟨A, c, h1, h2, h3⟩
theorem RI.nil (w : World) : RI w (.slice none 0 0) [] := RI.of_own (base := 0) ⟨rfl, .inl ⟨rfl, rfl⟩⟩
theorem RI.lit {w : World} {g : Nat} {l : List Int} (h : w.heap[g]? = some (.cells (l.map (Value.int .i64)).toArray 3 (0, 0))) (hl : l.length ≤ maxLen) : RI w (.slice (some ⟨g, 0, none⟩) l.length l.length) l :=
  RI.of_own (base := 0) ⟨by simp [nums], .inr ⟨g, l.length, _, rfl, Nat.zero_le _, h, Nat.le_refl _, hl, by simp, by rw [Nat.mul_one, List.take_of_length_le (by simp)]; rfl⟩⟩
def MvPost (w : World) (t u : List Int) (e : Ending) (w' : World) : Prop := ∃ v1 v2, e = .returned (.tuple #[v1, v2]) ∧ RI w' v1 t ∧ RI w' v2 u ∧ Below w.heap.size w w'
theorem nums1 (w : World) : Calls Tryd.prog 140 #[.int .i64 1] w fun e w' => ∃ v', e = .returned v' ∧ w'.ownsRow w.heap.size 3 1 v' 1 (nums .i64 [1]) ∧ Below w.heap.size w w' := nums_calls 1 (.inl rfl) w
theorem nums2 (w : World) : Calls Tryd.prog 140 #[.int .i64 2] w fun e w' => ∃ v', e = .returned v' ∧ w'.ownsRow w.heap.size 3 1 v' 2 (nums .i64 [1, 1]) ∧ Below w.heap.size w w' := nums_calls 2 (.inr rfl) w
theorem refs1 (w : World) : Calls Tryd.prog 141 #[.int .i64 1] w fun e w' => ∃ v', e = .returned v' ∧ w'.ownsRow w.heap.size 3 1 v' 1 (nums .i64 [2]) ∧ Below w.heap.size w w' := refs_calls 1 (.inl rfl) w
theorem refs2 (w : World) : Calls Tryd.prog 141 #[.int .i64 2] w fun e w' => ∃ v', e = .returned v' ∧ w'.ownsRow w.heap.size 3 1 v' 2 (nums .i64 [2, 2]) ∧ Below w.heap.size w w' := refs_calls 2 (.inr rfl) w
section
variable {w : World} {A0 A1 A2 B0 B2 B4 : Option Addr} {c0 c1 c2 d0 d2 d4 : Nat} {p : Pg} {m : Meth}
set_option maxRecDepth 100000 in
set_option maxHeartbeats 800000 in
theorem moves_0 (a b s : Int) :
    Calls Tryd.prog 111 #[.agg #[.slice A0 p.pool.length c0, .slice A1 p.classes.length c1, .slice A2 p.methods.length c2], .agg #[.slice B0 m.f0.length d0, .int .i64 m.f1, .slice B2 m.f2.length d2, .int .i64 m.f3, .slice B4 m.f4.length d4], .agg #[.int .i64 0, .int .i64 a, .int .i64 b, .int .i64 s]] w (MvPost w (movesS p m 0 a b).1 (movesS p m 0 a b).2) := by
  show Calls _ _ _ _ (MvPost w [] [])
  have hB0 : Below w.heap.size w (((w.alloc (.cells #[.slice A0 p.pool.length c0, .slice A1 p.classes.length c1, .slice A2 p.methods.length c2] 59)).alloc (.cells #[.slice B0 m.f0.length d0, .int .i64 m.f1, .slice B2 m.f2.length d2, .int .i64 m.f3, .slice B4 m.f4.length d4] 64)).alloc (.cells #[.int .i64 0, .int .i64 a, .int .i64 b, .int .i64 s] 25)) := (((Below.refl _ w).alloc (Nat.le_refl _) _).alloc (by simp) _).alloc (by simp; omega) _
  have HB0 := Lib.hid hB0
  clear hB0
  go_enter Tryd.func111, Tryd.ntmps111
  go_wp2_with fail
  go_ret2
  exact ⟨_, _, rfl, RI.nil _, RI.nil _, HB0.out⟩
set_option maxRecDepth 100000 in
set_option maxHeartbeats 800000 in
theorem moves_1 (a b s : Int) :
    Calls Tryd.prog 111 #[.agg #[.slice A0 p.pool.length c0, .slice A1 p.classes.length c1, .slice A2 p.methods.length c2], .agg #[.slice B0 m.f0.length d0, .int .i64 m.f1, .slice B2 m.f2.length d2, .int .i64 m.f3, .slice B4 m.f4.length d4], .agg #[.int .i64 1, .int .i64 a, .int .i64 b, .int .i64 s]] w (MvPost w (movesS p m 1 a b).1 (movesS p m 1 a b).2) := by
  show Calls _ _ _ _ (MvPost w [] [1])
  have hB0 : Below w.heap.size w (((w.alloc (.cells #[.slice A0 p.pool.length c0, .slice A1 p.classes.length c1, .slice A2 p.methods.length c2] 59)).alloc (.cells #[.slice B0 m.f0.length d0, .int .i64 m.f1, .slice B2 m.f2.length d2, .int .i64 m.f3, .slice B4 m.f4.length d4] 64)).alloc (.cells #[.int .i64 1, .int .i64 a, .int .i64 b, .int .i64 s] 25)) := (((Below.refl _ w).alloc (Nat.le_refl _) _).alloc (by simp) _).alloc (by simp; omega) _
  have HB0 := Lib.hid hB0
  clear hB0
  go_enter Tryd.func111, Tryd.ntmps111
  go_wp2_with fail
  refine (nums1 _).mono ?_
  rintro e w1 ⟨v1, rfl, ho1, hb1⟩
  have HO1 := Lib.hid ho1
  have HB1 := Lib.hid (HB0.out.trans (hb1.mono HB0.out.size))
  have HC1 := Lib.hid hb1
  clear ho1 hb1
  go_wp2_with fail
  go_ret2
  exact ⟨_, _, rfl, RI.nil _, RI.of_own HO1.out, HB1.out⟩
set_option maxRecDepth 100000 in
set_option maxHeartbeats 800000 in
theorem moves_2 (a b s : Int) :
    Calls Tryd.prog 111 #[.agg #[.slice A0 p.pool.length c0, .slice A1 p.classes.length c1, .slice A2 p.methods.length c2], .agg #[.slice B0 m.f0.length d0, .int .i64 m.f1, .slice B2 m.f2.length d2, .int .i64 m.f3, .slice B4 m.f4.length d4], .agg #[.int .i64 2, .int .i64 a, .int .i64 b, .int .i64 s]] w (MvPost w (movesS p m 2 a b).1 (movesS p m 2 a b).2) := by
  show Calls _ _ _ _ (MvPost w [] [1])
  have hB0 : Below w.heap.size w (((w.alloc (.cells #[.slice A0 p.pool.length c0, .slice A1 p.classes.length c1, .slice A2 p.methods.length c2] 59)).alloc (.cells #[.slice B0 m.f0.length d0, .int .i64 m.f1, .slice B2 m.f2.length d2, .int .i64 m.f3, .slice B4 m.f4.length d4] 64)).alloc (.cells #[.int .i64 2, .int .i64 a, .int .i64 b, .int .i64 s] 25)) := (((Below.refl _ w).alloc (Nat.le_refl _) _).alloc (by simp) _).alloc (by simp; omega) _
  have HB0 := Lib.hid hB0
  clear hB0
  go_enter Tryd.func111, Tryd.ntmps111
  go_wp2_with fail
  refine (nums1 _).mono ?_
  rintro e w1 ⟨v1, rfl, ho1, hb1⟩
  have HO1 := Lib.hid ho1
  have HB1 := Lib.hid (HB0.out.trans (hb1.mono HB0.out.size))
  have HC1 := Lib.hid hb1
  clear ho1 hb1
  go_wp2_with fail
  go_ret2
  exact ⟨_, _, rfl, RI.nil _, RI.of_own HO1.out, HB1.out⟩
set_option maxRecDepth 100000 in
set_option maxHeartbeats 800000 in
theorem moves_3 (a b s : Int) :
    Calls Tryd.prog 111 #[.agg #[.slice A0 p.pool.length c0, .slice A1 p.classes.length c1, .slice A2 p.methods.length c2], .agg #[.slice B0 m.f0.length d0, .int .i64 m.f1, .slice B2 m.f2.length d2, .int .i64 m.f3, .slice B4 m.f4.length d4], .agg #[.int .i64 3, .int .i64 a, .int .i64 b, .int .i64 s]] w (MvPost w (movesS p m 3 a b).1 (movesS p m 3 a b).2) := by
  show Calls _ _ _ _ (MvPost w [] [2])
  have hB0 : Below w.heap.size w (((w.alloc (.cells #[.slice A0 p.pool.length c0, .slice A1 p.classes.length c1, .slice A2 p.methods.length c2] 59)).alloc (.cells #[.slice B0 m.f0.length d0, .int .i64 m.f1, .slice B2 m.f2.length d2, .int .i64 m.f3, .slice B4 m.f4.length d4] 64)).alloc (.cells #[.int .i64 3, .int .i64 a, .int .i64 b, .int .i64 s] 25)) := (((Below.refl _ w).alloc (Nat.le_refl _) _).alloc (by simp) _).alloc (by simp; omega) _
  have HB0 := Lib.hid hB0
  clear hB0
  go_enter Tryd.func111, Tryd.ntmps111
  go_wp2_with fail
  refine (refs1 _).mono ?_
  rintro e w1 ⟨v1, rfl, ho1, hb1⟩
  have HO1 := Lib.hid ho1
  have HB1 := Lib.hid (HB0.out.trans (hb1.mono HB0.out.size))
  have HC1 := Lib.hid hb1
  clear ho1 hb1
  go_wp2_with fail
  go_ret2
  exact ⟨_, _, rfl, RI.nil _, RI.of_own HO1.out, HB1.out⟩
set_option maxRecDepth 100000 in
set_option maxHeartbeats 800000 in
theorem moves_9 (a b s : Int) :
    Calls Tryd.prog 111 #[.agg #[.slice A0 p.pool.length c0, .slice A1 p.classes.length c1, .slice A2 p.methods.length c2], .agg #[.slice B0 m.f0.length d0, .int .i64 m.f1, .slice B2 m.f2.length d2, .int .i64 m.f3, .slice B4 m.f4.length d4], .agg #[.int .i64 9, .int .i64 a, .int .i64 b, .int .i64 s]] w (MvPost w (movesS p m 9 a b).1 (movesS p m 9 a b).2) := by
  show Calls _ _ _ _ (MvPost w [1, 1] [1])
  have hB0 : Below w.heap.size w (((w.alloc (.cells #[.slice A0 p.pool.length c0, .slice A1 p.classes.length c1, .slice A2 p.methods.length c2] 59)).alloc (.cells #[.slice B0 m.f0.length d0, .int .i64 m.f1, .slice B2 m.f2.length d2, .int .i64 m.f3, .slice B4 m.f4.length d4] 64)).alloc (.cells #[.int .i64 9, .int .i64 a, .int .i64 b, .int .i64 s] 25)) := (((Below.refl _ w).alloc (Nat.le_refl _) _).alloc (by simp) _).alloc (by simp; omega) _
  have HB0 := Lib.hid hB0
  clear hB0
  go_enter Tryd.func111, Tryd.ntmps111
  go_wp2_with fail
  refine (nums2 _).mono ?_
  rintro e w1 ⟨v1, rfl, ho1, hb1⟩
  have HO1 := Lib.hid ho1
  have HB1 := Lib.hid (HB0.out.trans (hb1.mono HB0.out.size))
  have HC1 := Lib.hid hb1
  clear ho1 hb1
  go_wp2_with fail
  refine (nums1 _).mono ?_
  rintro e w2 ⟨v2, rfl, ho2, hb2⟩
  have HO2 := Lib.hid ho2
  have HB2 := Lib.hid (HB1.out.trans (hb2.mono HB1.out.size))
  have HC2 := Lib.hid hb2
  clear ho2 hb2
  go_wp2_with fail
  go_ret2
  exact ⟨_, _, rfl, (RI.of_own HO1.out).below HC2.out, RI.of_own HO2.out, HB2.out⟩
set_option maxRecDepth 100000 in
set_option maxHeartbeats 800000 in
theorem moves_10 (a b s : Int) :
    Calls Tryd.prog 111 #[.agg #[.slice A0 p.pool.length c0, .slice A1 p.classes.length c1, .slice A2 p.methods.length c2], .agg #[.slice B0 m.f0.length d0, .int .i64 m.f1, .slice B2 m.f2.length d2, .int .i64 m.f3, .slice B4 m.f4.length d4], .agg #[.int .i64 10, .int .i64 a, .int .i64 b, .int .i64 s]] w (MvPost w (movesS p m 10 a b).1 (movesS p m 10 a b).2) := by
  show Calls _ _ _ _ (MvPost w [1, 1] [1])
  have hB0 : Below w.heap.size w (((w.alloc (.cells #[.slice A0 p.pool.length c0, .slice A1 p.classes.length c1, .slice A2 p.methods.length c2] 59)).alloc (.cells #[.slice B0 m.f0.length d0, .int .i64 m.f1, .slice B2 m.f2.length d2, .int .i64 m.f3, .slice B4 m.f4.length d4] 64)).alloc (.cells #[.int .i64 10, .int .i64 a, .int .i64 b, .int .i64 s] 25)) := (((Below.refl _ w).alloc (Nat.le_refl _) _).alloc (by simp) _).alloc (by simp; omega) _
  have HB0 := Lib.hid hB0
  clear hB0
  go_enter Tryd.func111, Tryd.ntmps111
  go_wp2_with fail
  refine (nums2 _).mono ?_
  rintro e w1 ⟨v1, rfl, ho1, hb1⟩
  have HO1 := Lib.hid ho1
  have HB1 := Lib.hid (HB0.out.trans (hb1.mono HB0.out.size))
  have HC1 := Lib.hid hb1
  clear ho1 hb1
  go_wp2_with fail
  refine (nums1 _).mono ?_
  rintro e w2 ⟨v2, rfl, ho2, hb2⟩
  have HO2 := Lib.hid ho2
  have HB2 := Lib.hid (HB1.out.trans (hb2.mono HB1.out.size))
  have HC2 := Lib.hid hb2
  clear ho2 hb2
  go_wp2_with fail
  go_ret2
  exact ⟨_, _, rfl, (RI.of_own HO1.out).below HC2.out, RI.of_own HO2.out, HB2.out⟩
set_option maxRecDepth 100000 in
set_option maxHeartbeats 800000 in
theorem moves_11 (a b s : Int) :
    Calls Tryd.prog 111 #[.agg #[.slice A0 p.pool.length c0, .slice A1 p.classes.length c1, .slice A2 p.methods.length c2], .agg #[.slice B0 m.f0.length d0, .int .i64 m.f1, .slice B2 m.f2.length d2, .int .i64 m.f3, .slice B4 m.f4.length d4], .agg #[.int .i64 11, .int .i64 a, .int .i64 b, .int .i64 s]] w (MvPost w (movesS p m 11 a b).1 (movesS p m 11 a b).2) := by
  show Calls _ _ _ _ (MvPost w [1, 1] [1])
  have hB0 : Below w.heap.size w (((w.alloc (.cells #[.slice A0 p.pool.length c0, .slice A1 p.classes.length c1, .slice A2 p.methods.length c2] 59)).alloc (.cells #[.slice B0 m.f0.length d0, .int .i64 m.f1, .slice B2 m.f2.length d2, .int .i64 m.f3, .slice B4 m.f4.length d4] 64)).alloc (.cells #[.int .i64 11, .int .i64 a, .int .i64 b, .int .i64 s] 25)) := (((Below.refl _ w).alloc (Nat.le_refl _) _).alloc (by simp) _).alloc (by simp; omega) _
  have HB0 := Lib.hid hB0
  clear hB0
  go_enter Tryd.func111, Tryd.ntmps111
  go_wp2_with fail
  refine (nums2 _).mono ?_
  rintro e w1 ⟨v1, rfl, ho1, hb1⟩
  have HO1 := Lib.hid ho1
  have HB1 := Lib.hid (HB0.out.trans (hb1.mono HB0.out.size))
  have HC1 := Lib.hid hb1
  clear ho1 hb1
  go_wp2_with fail
  refine (nums1 _).mono ?_
  rintro e w2 ⟨v2, rfl, ho2, hb2⟩
  have HO2 := Lib.hid ho2
  have HB2 := Lib.hid (HB1.out.trans (hb2.mono HB1.out.size))
  have HC2 := Lib.hid hb2
  clear ho2 hb2
  go_wp2_with fail
  go_ret2
  exact ⟨_, _, rfl, (RI.of_own HO1.out).below HC2.out, RI.of_own HO2.out, HB2.out⟩
set_option maxRecDepth 100000 in
set_option maxHeartbeats 800000 in
theorem moves_12 (a b s : Int) :
    Calls Tryd.prog 111 #[.agg #[.slice A0 p.pool.length c0, .slice A1 p.classes.length c1, .slice A2 p.methods.length c2], .agg #[.slice B0 m.f0.length d0, .int .i64 m.f1, .slice B2 m.f2.length d2, .int .i64 m.f3, .slice B4 m.f4.length d4], .agg #[.int .i64 12, .int .i64 a, .int .i64 b, .int .i64 s]] w (MvPost w (movesS p m 12 a b).1 (movesS p m 12 a b).2) := by
  show Calls _ _ _ _ (MvPost w [1, 1] [1])
  have hB0 : Below w.heap.size w (((w.alloc (.cells #[.slice A0 p.pool.length c0, .slice A1 p.classes.length c1, .slice A2 p.methods.length c2] 59)).alloc (.cells #[.slice B0 m.f0.length d0, .int .i64 m.f1, .slice B2 m.f2.length d2, .int .i64 m.f3, .slice B4 m.f4.length d4] 64)).alloc (.cells #[.int .i64 12, .int .i64 a, .int .i64 b, .int .i64 s] 25)) := (((Below.refl _ w).alloc (Nat.le_refl _) _).alloc (by simp) _).alloc (by simp; omega) _
  have HB0 := Lib.hid hB0
  clear hB0
  go_enter Tryd.func111, Tryd.ntmps111
  go_wp2_with fail
  refine (nums2 _).mono ?_
  rintro e w1 ⟨v1, rfl, ho1, hb1⟩
  have HO1 := Lib.hid ho1
  have HB1 := Lib.hid (HB0.out.trans (hb1.mono HB0.out.size))
  have HC1 := Lib.hid hb1
  clear ho1 hb1
  go_wp2_with fail
  refine (nums1 _).mono ?_
  rintro e w2 ⟨v2, rfl, ho2, hb2⟩
  have HO2 := Lib.hid ho2
  have HB2 := Lib.hid (HB1.out.trans (hb2.mono HB1.out.size))
  have HC2 := Lib.hid hb2
  clear ho2 hb2
  go_wp2_with fail
  go_ret2
  exact ⟨_, _, rfl, (RI.of_own HO1.out).below HC2.out, RI.of_own HO2.out, HB2.out⟩
set_option maxRecDepth 100000 in
set_option maxHeartbeats 800000 in
theorem moves_13 (a b s : Int) :
    Calls Tryd.prog 111 #[.agg #[.slice A0 p.pool.length c0, .slice A1 p.classes.length c1, .slice A2 p.methods.length c2], .agg #[.slice B0 m.f0.length d0, .int .i64 m.f1, .slice B2 m.f2.length d2, .int .i64 m.f3, .slice B4 m.f4.length d4], .agg #[.int .i64 13, .int .i64 a, .int .i64 b, .int .i64 s]] w (MvPost w (movesS p m 13 a b).1 (movesS p m 13 a b).2) := by
  show Calls _ _ _ _ (MvPost w [1, 1] [1])
  have hB0 : Below w.heap.size w (((w.alloc (.cells #[.slice A0 p.pool.length c0, .slice A1 p.classes.length c1, .slice A2 p.methods.length c2] 59)).alloc (.cells #[.slice B0 m.f0.length d0, .int .i64 m.f1, .slice B2 m.f2.length d2, .int .i64 m.f3, .slice B4 m.f4.length d4] 64)).alloc (.cells #[.int .i64 13, .int .i64 a, .int .i64 b, .int .i64 s] 25)) := (((Below.refl _ w).alloc (Nat.le_refl _) _).alloc (by simp) _).alloc (by simp; omega) _
  have HB0 := Lib.hid hB0
  clear hB0
  go_enter Tryd.func111, Tryd.ntmps111
  go_wp2_with fail
  refine (nums2 _).mono ?_
  rintro e w1 ⟨v1, rfl, ho1, hb1⟩
  have HO1 := Lib.hid ho1
  have HB1 := Lib.hid (HB0.out.trans (hb1.mono HB0.out.size))
  have HC1 := Lib.hid hb1
  clear ho1 hb1
  go_wp2_with fail
  refine (nums1 _).mono ?_
  rintro e w2 ⟨v2, rfl, ho2, hb2⟩
  have HO2 := Lib.hid ho2
  have HB2 := Lib.hid (HB1.out.trans (hb2.mono HB1.out.size))
  have HC2 := Lib.hid hb2
  clear ho2 hb2
  go_wp2_with fail
  go_ret2
  exact ⟨_, _, rfl, (RI.of_own HO1.out).below HC2.out, RI.of_own HO2.out, HB2.out⟩
set_option maxRecDepth 100000 in
set_option maxHeartbeats 800000 in
theorem moves_14 (a b s : Int) :
    Calls Tryd.prog 111 #[.agg #[.slice A0 p.pool.length c0, .slice A1 p.classes.length c1, .slice A2 p.methods.length c2], .agg #[.slice B0 m.f0.length d0, .int .i64 m.f1, .slice B2 m.f2.length d2, .int .i64 m.f3, .slice B4 m.f4.length d4], .agg #[.int .i64 14, .int .i64 a, .int .i64 b, .int .i64 s]] w (MvPost w (movesS p m 14 a b).1 (movesS p m 14 a b).2) := by
  show Calls _ _ _ _ (MvPost w [1, 1] [1])
  have hB0 : Below w.heap.size w (((w.alloc (.cells #[.slice A0 p.pool.length c0, .slice A1 p.classes.length c1, .slice A2 p.methods.length c2] 59)).alloc (.cells #[.slice B0 m.f0.length d0, .int .i64 m.f1, .slice B2 m.f2.length d2, .int .i64 m.f3, .slice B4 m.f4.length d4] 64)).alloc (.cells #[.int .i64 14, .int .i64 a, .int .i64 b, .int .i64 s] 25)) := (((Below.refl _ w).alloc (Nat.le_refl _) _).alloc (by simp) _).alloc (by simp; omega) _
  have HB0 := Lib.hid hB0
  clear hB0
  go_enter Tryd.func111, Tryd.ntmps111
  go_wp2_with fail
  refine (nums2 _).mono ?_
  rintro e w1 ⟨v1, rfl, ho1, hb1⟩
  have HO1 := Lib.hid ho1
  have HB1 := Lib.hid (HB0.out.trans (hb1.mono HB0.out.size))
  have HC1 := Lib.hid hb1
  clear ho1 hb1
  go_wp2_with fail
  refine (nums1 _).mono ?_
  rintro e w2 ⟨v2, rfl, ho2, hb2⟩
  have HO2 := Lib.hid ho2
  have HB2 := Lib.hid (HB1.out.trans (hb2.mono HB1.out.size))
  have HC2 := Lib.hid hb2
  clear ho2 hb2
  go_wp2_with fail
  go_ret2
  exact ⟨_, _, rfl, (RI.of_own HO1.out).below HC2.out, RI.of_own HO2.out, HB2.out⟩
set_option maxRecDepth 100000 in
set_option maxHeartbeats 800000 in
theorem moves_15 (a b s : Int) :
    Calls Tryd.prog 111 #[.agg #[.slice A0 p.pool.length c0, .slice A1 p.classes.length c1, .slice A2 p.methods.length c2], .agg #[.slice B0 m.f0.length d0, .int .i64 m.f1, .slice B2 m.f2.length d2, .int .i64 m.f3, .slice B4 m.f4.length d4], .agg #[.int .i64 15, .int .i64 a, .int .i64 b, .int .i64 s]] w (MvPost w (movesS p m 15 a b).1 (movesS p m 15 a b).2) := by
  show Calls _ _ _ _ (MvPost w [1, 1] [1])
  have hB0 : Below w.heap.size w (((w.alloc (.cells #[.slice A0 p.pool.length c0, .slice A1 p.classes.length c1, .slice A2 p.methods.length c2] 59)).alloc (.cells #[.slice B0 m.f0.length d0, .int .i64 m.f1, .slice B2 m.f2.length d2, .int .i64 m.f3, .slice B4 m.f4.length d4] 64)).alloc (.cells #[.int .i64 15, .int .i64 a, .int .i64 b, .int .i64 s] 25)) := (((Below.refl _ w).alloc (Nat.le_refl _) _).alloc (by simp) _).alloc (by simp; omega) _
  have HB0 := Lib.hid hB0
  clear hB0
  go_enter Tryd.func111, Tryd.ntmps111
  go_wp2_with fail
  refine (nums2 _).mono ?_
  rintro e w1 ⟨v1, rfl, ho1, hb1⟩
  have HO1 := Lib.hid ho1
  have HB1 := Lib.hid (HB0.out.trans (hb1.mono HB0.out.size))
  have HC1 := Lib.hid hb1
  clear ho1 hb1
  go_wp2_with fail
  refine (nums1 _).mono ?_
  rintro e w2 ⟨v2, rfl, ho2, hb2⟩
  have HO2 := Lib.hid ho2
  have HB2 := Lib.hid (HB1.out.trans (hb2.mono HB1.out.size))
  have HC2 := Lib.hid hb2
  clear ho2 hb2
  go_wp2_with fail
  go_ret2
  exact ⟨_, _, rfl, (RI.of_own HO1.out).below HC2.out, RI.of_own HO2.out, HB2.out⟩
set_option maxRecDepth 100000 in
set_option maxHeartbeats 800000 in
theorem moves_16 (a b s : Int) :
    Calls Tryd.prog 111 #[.agg #[.slice A0 p.pool.length c0, .slice A1 p.classes.length c1, .slice A2 p.methods.length c2], .agg #[.slice B0 m.f0.length d0, .int .i64 m.f1, .slice B2 m.f2.length d2, .int .i64 m.f3, .slice B4 m.f4.length d4], .agg #[.int .i64 16, .int .i64 a, .int .i64 b, .int .i64 s]] w (MvPost w (movesS p m 16 a b).1 (movesS p m 16 a b).2) := by
  show Calls _ _ _ _ (MvPost w [1, 1] [1])
  have hB0 : Below w.heap.size w (((w.alloc (.cells #[.slice A0 p.pool.length c0, .slice A1 p.classes.length c1, .slice A2 p.methods.length c2] 59)).alloc (.cells #[.slice B0 m.f0.length d0, .int .i64 m.f1, .slice B2 m.f2.length d2, .int .i64 m.f3, .slice B4 m.f4.length d4] 64)).alloc (.cells #[.int .i64 16, .int .i64 a, .int .i64 b, .int .i64 s] 25)) := (((Below.refl _ w).alloc (Nat.le_refl _) _).alloc (by simp) _).alloc (by simp; omega) _
  have HB0 := Lib.hid hB0
  clear hB0
  go_enter Tryd.func111, Tryd.ntmps111
  go_wp2_with fail
  refine (nums2 _).mono ?_
  rintro e w1 ⟨v1, rfl, ho1, hb1⟩
  have HO1 := Lib.hid ho1
  have HB1 := Lib.hid (HB0.out.trans (hb1.mono HB0.out.size))
  have HC1 := Lib.hid hb1
  clear ho1 hb1
  go_wp2_with fail
  refine (nums1 _).mono ?_
  rintro e w2 ⟨v2, rfl, ho2, hb2⟩
  have HO2 := Lib.hid ho2
  have HB2 := Lib.hid (HB1.out.trans (hb2.mono HB1.out.size))
  have HC2 := Lib.hid hb2
  clear ho2 hb2
  go_wp2_with fail
  go_ret2
  exact ⟨_, _, rfl, (RI.of_own HO1.out).below HC2.out, RI.of_own HO2.out, HB2.out⟩
set_option maxRecDepth 100000 in
set_option maxHeartbeats 800000 in
theorem moves_17 (a b s : Int) :
    Calls Tryd.prog 111 #[.agg #[.slice A0 p.pool.length c0, .slice A1 p.classes.length c1, .slice A2 p.methods.length c2], .agg #[.slice B0 m.f0.length d0, .int .i64 m.f1, .slice B2 m.f2.length d2, .int .i64 m.f3, .slice B4 m.f4.length d4], .agg #[.int .i64 17, .int .i64 a, .int .i64 b, .int .i64 s]] w (MvPost w (movesS p m 17 a b).1 (movesS p m 17 a b).2) := by
  show Calls _ _ _ _ (MvPost w [1, 1] [1])
  have hB0 : Below w.heap.size w (((w.alloc (.cells #[.slice A0 p.pool.length c0, .slice A1 p.classes.length c1, .slice A2 p.methods.length c2] 59)).alloc (.cells #[.slice B0 m.f0.length d0, .int .i64 m.f1, .slice B2 m.f2.length d2, .int .i64 m.f3, .slice B4 m.f4.length d4] 64)).alloc (.cells #[.int .i64 17, .int .i64 a, .int .i64 b, .int .i64 s] 25)) := (((Below.refl _ w).alloc (Nat.le_refl _) _).alloc (by simp) _).alloc (by simp; omega) _
  have HB0 := Lib.hid hB0
  clear hB0
  go_enter Tryd.func111, Tryd.ntmps111
  go_wp2_with fail
  refine (nums2 _).mono ?_
  rintro e w1 ⟨v1, rfl, ho1, hb1⟩
  have HO1 := Lib.hid ho1
  have HB1 := Lib.hid (HB0.out.trans (hb1.mono HB0.out.size))
  have HC1 := Lib.hid hb1
  clear ho1 hb1
  go_wp2_with fail
  refine (nums1 _).mono ?_
  rintro e w2 ⟨v2, rfl, ho2, hb2⟩
  have HO2 := Lib.hid ho2
  have HB2 := Lib.hid (HB1.out.trans (hb2.mono HB1.out.size))
  have HC2 := Lib.hid hb2
  clear ho2 hb2
  go_wp2_with fail
  go_ret2
  exact ⟨_, _, rfl, (RI.of_own HO1.out).below HC2.out, RI.of_own HO2.out, HB2.out⟩
set_option maxRecDepth 100000 in
set_option maxHeartbeats 800000 in
theorem moves_18 (a b s : Int) :
    Calls Tryd.prog 111 #[.agg #[.slice A0 p.pool.length c0, .slice A1 p.classes.length c1, .slice A2 p.methods.length c2], .agg #[.slice B0 m.f0.length d0, .int .i64 m.f1, .slice B2 m.f2.length d2, .int .i64 m.f3, .slice B4 m.f4.length d4], .agg #[.int .i64 18, .int .i64 a, .int .i64 b, .int .i64 s]] w (MvPost w (movesS p m 18 a b).1 (movesS p m 18 a b).2) := by
  show Calls _ _ _ _ (MvPost w [1, 1] [1])
  have hB0 : Below w.heap.size w (((w.alloc (.cells #[.slice A0 p.pool.length c0, .slice A1 p.classes.length c1, .slice A2 p.methods.length c2] 59)).alloc (.cells #[.slice B0 m.f0.length d0, .int .i64 m.f1, .slice B2 m.f2.length d2, .int .i64 m.f3, .slice B4 m.f4.length d4] 64)).alloc (.cells #[.int .i64 18, .int .i64 a, .int .i64 b, .int .i64 s] 25)) := (((Below.refl _ w).alloc (Nat.le_refl _) _).alloc (by simp) _).alloc (by simp; omega) _
  have HB0 := Lib.hid hB0
  clear hB0
  go_enter Tryd.func111, Tryd.ntmps111
  go_wp2_with fail
  refine (nums2 _).mono ?_
  rintro e w1 ⟨v1, rfl, ho1, hb1⟩
  have HO1 := Lib.hid ho1
  have HB1 := Lib.hid (HB0.out.trans (hb1.mono HB0.out.size))
  have HC1 := Lib.hid hb1
  clear ho1 hb1
  go_wp2_with fail
  refine (nums1 _).mono ?_
  rintro e w2 ⟨v2, rfl, ho2, hb2⟩
  have HO2 := Lib.hid ho2
  have HB2 := Lib.hid (HB1.out.trans (hb2.mono HB1.out.size))
  have HC2 := Lib.hid hb2
  clear ho2 hb2
  go_wp2_with fail
  go_ret2
  exact ⟨_, _, rfl, (RI.of_own HO1.out).below HC2.out, RI.of_own HO2.out, HB2.out⟩
set_option maxRecDepth 100000 in
set_option maxHeartbeats 800000 in
theorem moves_19 (a b s : Int) :
    Calls Tryd.prog 111 #[.agg #[.slice A0 p.pool.length c0, .slice A1 p.classes.length c1, .slice A2 p.methods.length c2], .agg #[.slice B0 m.f0.length d0, .int .i64 m.f1, .slice B2 m.f2.length d2, .int .i64 m.f3, .slice B4 m.f4.length d4], .agg #[.int .i64 19, .int .i64 a, .int .i64 b, .int .i64 s]] w (MvPost w (movesS p m 19 a b).1 (movesS p m 19 a b).2) := by
  show Calls _ _ _ _ (MvPost w [1, 1] [1])
  have hB0 : Below w.heap.size w (((w.alloc (.cells #[.slice A0 p.pool.length c0, .slice A1 p.classes.length c1, .slice A2 p.methods.length c2] 59)).alloc (.cells #[.slice B0 m.f0.length d0, .int .i64 m.f1, .slice B2 m.f2.length d2, .int .i64 m.f3, .slice B4 m.f4.length d4] 64)).alloc (.cells #[.int .i64 19, .int .i64 a, .int .i64 b, .int .i64 s] 25)) := (((Below.refl _ w).alloc (Nat.le_refl _) _).alloc (by simp) _).alloc (by simp; omega) _
  have HB0 := Lib.hid hB0
  clear hB0
  go_enter Tryd.func111, Tryd.ntmps111
  go_wp2_with fail
  refine (nums2 _).mono ?_
  rintro e w1 ⟨v1, rfl, ho1, hb1⟩
  have HO1 := Lib.hid ho1
  have HB1 := Lib.hid (HB0.out.trans (hb1.mono HB0.out.size))
  have HC1 := Lib.hid hb1
  clear ho1 hb1
  go_wp2_with fail
  refine (nums1 _).mono ?_
  rintro e w2 ⟨v2, rfl, ho2, hb2⟩
  have HO2 := Lib.hid ho2
  have HB2 := Lib.hid (HB1.out.trans (hb2.mono HB1.out.size))
  have HC2 := Lib.hid hb2
  clear ho2 hb2
  go_wp2_with fail
  go_ret2
  exact ⟨_, _, rfl, (RI.of_own HO1.out).below HC2.out, RI.of_own HO2.out, HB2.out⟩
set_option maxRecDepth 100000 in
set_option maxHeartbeats 800000 in
theorem moves_20 (a b s : Int) :
    Calls Tryd.prog 111 #[.agg #[.slice A0 p.pool.length c0, .slice A1 p.classes.length c1, .slice A2 p.methods.length c2], .agg #[.slice B0 m.f0.length d0, .int .i64 m.f1, .slice B2 m.f2.length d2, .int .i64 m.f3, .slice B4 m.f4.length d4], .agg #[.int .i64 20, .int .i64 a, .int .i64 b, .int .i64 s]] w (MvPost w (movesS p m 20 a b).1 (movesS p m 20 a b).2) := by
  show Calls _ _ _ _ (MvPost w [1] [1])
  have hB0 : Below w.heap.size w (((w.alloc (.cells #[.slice A0 p.pool.length c0, .slice A1 p.classes.length c1, .slice A2 p.methods.length c2] 59)).alloc (.cells #[.slice B0 m.f0.length d0, .int .i64 m.f1, .slice B2 m.f2.length d2, .int .i64 m.f3, .slice B4 m.f4.length d4] 64)).alloc (.cells #[.int .i64 20, .int .i64 a, .int .i64 b, .int .i64 s] 25)) := (((Below.refl _ w).alloc (Nat.le_refl _) _).alloc (by simp) _).alloc (by simp; omega) _
  have HB0 := Lib.hid hB0
  clear hB0
  go_enter Tryd.func111, Tryd.ntmps111
  go_wp2_with fail
  refine (nums1 _).mono ?_
  rintro e w1 ⟨v1, rfl, ho1, hb1⟩
  have HO1 := Lib.hid ho1
  have HB1 := Lib.hid (HB0.out.trans (hb1.mono HB0.out.size))
  have HC1 := Lib.hid hb1
  clear ho1 hb1
  go_wp2_with fail
  refine (nums1 _).mono ?_
  rintro e w2 ⟨v2, rfl, ho2, hb2⟩
  have HO2 := Lib.hid ho2
  have HB2 := Lib.hid (HB1.out.trans (hb2.mono HB1.out.size))
  have HC2 := Lib.hid hb2
  clear ho2 hb2
  go_wp2_with fail
  go_ret2
  exact ⟨_, _, rfl, (RI.of_own HO1.out).below HC2.out, RI.of_own HO2.out, HB2.out⟩
set_option maxRecDepth 100000 in
set_option maxHeartbeats 800000 in
theorem moves_21 (a b s : Int) :
    Calls Tryd.prog 111 #[.agg #[.slice A0 p.pool.length c0, .slice A1 p.classes.length c1, .slice A2 p.methods.length c2], .agg #[.slice B0 m.f0.length d0, .int .i64 m.f1, .slice B2 m.f2.length d2, .int .i64 m.f3, .slice B4 m.f4.length d4], .agg #[.int .i64 21, .int .i64 a, .int .i64 b, .int .i64 s]] w (MvPost w (movesS p m 21 a b).1 (movesS p m 21 a b).2) := by
  show Calls _ _ _ _ (MvPost w [1, 1] [1])
  have hB0 : Below w.heap.size w (((w.alloc (.cells #[.slice A0 p.pool.length c0, .slice A1 p.classes.length c1, .slice A2 p.methods.length c2] 59)).alloc (.cells #[.slice B0 m.f0.length d0, .int .i64 m.f1, .slice B2 m.f2.length d2, .int .i64 m.f3, .slice B4 m.f4.length d4] 64)).alloc (.cells #[.int .i64 21, .int .i64 a, .int .i64 b, .int .i64 s] 25)) := (((Below.refl _ w).alloc (Nat.le_refl _) _).alloc (by simp) _).alloc (by simp; omega) _
  have HB0 := Lib.hid hB0
  clear hB0
  go_enter Tryd.func111, Tryd.ntmps111
  go_wp2_with fail
  refine (nums2 _).mono ?_
  rintro e w1 ⟨v1, rfl, ho1, hb1⟩
  have HO1 := Lib.hid ho1
  have HB1 := Lib.hid (HB0.out.trans (hb1.mono HB0.out.size))
  have HC1 := Lib.hid hb1
  clear ho1 hb1
  go_wp2_with fail
  refine (nums1 _).mono ?_
  rintro e w2 ⟨v2, rfl, ho2, hb2⟩
  have HO2 := Lib.hid ho2
  have HB2 := Lib.hid (HB1.out.trans (hb2.mono HB1.out.size))
  have HC2 := Lib.hid hb2
  clear ho2 hb2
  go_wp2_with fail
  go_ret2
  exact ⟨_, _, rfl, (RI.of_own HO1.out).below HC2.out, RI.of_own HO2.out, HB2.out⟩
set_option maxRecDepth 100000 in
set_option maxHeartbeats 800000 in
theorem moves_22 (a b s : Int) :
    Calls Tryd.prog 111 #[.agg #[.slice A0 p.pool.length c0, .slice A1 p.classes.length c1, .slice A2 p.methods.length c2], .agg #[.slice B0 m.f0.length d0, .int .i64 m.f1, .slice B2 m.f2.length d2, .int .i64 m.f3, .slice B4 m.f4.length d4], .agg #[.int .i64 22, .int .i64 a, .int .i64 b, .int .i64 s]] w (MvPost w (movesS p m 22 a b).1 (movesS p m 22 a b).2) := by
  show Calls _ _ _ _ (MvPost w [1, 1] [1])
  have hB0 : Below w.heap.size w (((w.alloc (.cells #[.slice A0 p.pool.length c0, .slice A1 p.classes.length c1, .slice A2 p.methods.length c2] 59)).alloc (.cells #[.slice B0 m.f0.length d0, .int .i64 m.f1, .slice B2 m.f2.length d2, .int .i64 m.f3, .slice B4 m.f4.length d4] 64)).alloc (.cells #[.int .i64 22, .int .i64 a, .int .i64 b, .int .i64 s] 25)) := (((Below.refl _ w).alloc (Nat.le_refl _) _).alloc (by simp) _).alloc (by simp; omega) _
  have HB0 := Lib.hid hB0
  clear hB0
  go_enter Tryd.func111, Tryd.ntmps111
  go_wp2_with fail
  refine (nums2 _).mono ?_
  rintro e w1 ⟨v1, rfl, ho1, hb1⟩
  have HO1 := Lib.hid ho1
  have HB1 := Lib.hid (HB0.out.trans (hb1.mono HB0.out.size))
  have HC1 := Lib.hid hb1
  clear ho1 hb1
  go_wp2_with fail
  refine (nums1 _).mono ?_
  rintro e w2 ⟨v2, rfl, ho2, hb2⟩
  have HO2 := Lib.hid ho2
  have HB2 := Lib.hid (HB1.out.trans (hb2.mono HB1.out.size))
  have HC2 := Lib.hid hb2
  clear ho2 hb2
  go_wp2_with fail
  go_ret2
  exact ⟨_, _, rfl, (RI.of_own HO1.out).below HC2.out, RI.of_own HO2.out, HB2.out⟩
set_option maxRecDepth 100000 in
set_option maxHeartbeats 800000 in
theorem moves_23 (a b s : Int) :
    Calls Tryd.prog 111 #[.agg #[.slice A0 p.pool.length c0, .slice A1 p.classes.length c1, .slice A2 p.methods.length c2], .agg #[.slice B0 m.f0.length d0, .int .i64 m.f1, .slice B2 m.f2.length d2, .int .i64 m.f3, .slice B4 m.f4.length d4], .agg #[.int .i64 23, .int .i64 a, .int .i64 b, .int .i64 s]] w (MvPost w (movesS p m 23 a b).1 (movesS p m 23 a b).2) := by
  show Calls _ _ _ _ (MvPost w [2, 2] [1])
  have hB0 : Below w.heap.size w (((w.alloc (.cells #[.slice A0 p.pool.length c0, .slice A1 p.classes.length c1, .slice A2 p.methods.length c2] 59)).alloc (.cells #[.slice B0 m.f0.length d0, .int .i64 m.f1, .slice B2 m.f2.length d2, .int .i64 m.f3, .slice B4 m.f4.length d4] 64)).alloc (.cells #[.int .i64 23, .int .i64 a, .int .i64 b, .int .i64 s] 25)) := (((Below.refl _ w).alloc (Nat.le_refl _) _).alloc (by simp) _).alloc (by simp; omega) _
  have HB0 := Lib.hid hB0
  clear hB0
  go_enter Tryd.func111, Tryd.ntmps111
  go_wp2_with fail
  refine (refs2 _).mono ?_
  rintro e w1 ⟨v1, rfl, ho1, hb1⟩
  have HO1 := Lib.hid ho1
  have HB1 := Lib.hid (HB0.out.trans (hb1.mono HB0.out.size))
  have HC1 := Lib.hid hb1
  clear ho1 hb1
  go_wp2_with fail
  refine (nums1 _).mono ?_
  rintro e w2 ⟨v2, rfl, ho2, hb2⟩
  have HO2 := Lib.hid ho2
  have HB2 := Lib.hid (HB1.out.trans (hb2.mono HB1.out.size))
  have HC2 := Lib.hid hb2
  clear ho2 hb2
  go_wp2_with fail
  go_ret2
  exact ⟨_, _, rfl, (RI.of_own HO1.out).below HC2.out, RI.of_own HO2.out, HB2.out⟩
set_option maxRecDepth 100000 in
set_option maxHeartbeats 800000 in
theorem moves_24 (a b s : Int) :
    Calls Tryd.prog 111 #[.agg #[.slice A0 p.pool.length c0, .slice A1 p.classes.length c1, .slice A2 p.methods.length c2], .agg #[.slice B0 m.f0.length d0, .int .i64 m.f1, .slice B2 m.f2.length d2, .int .i64 m.f3, .slice B4 m.f4.length d4], .agg #[.int .i64 24, .int .i64 a, .int .i64 b, .int .i64 s]] w (MvPost w (movesS p m 24 a b).1 (movesS p m 24 a b).2) := by
  show Calls _ _ _ _ (MvPost w [2] [1])
  have hB0 : Below w.heap.size w (((w.alloc (.cells #[.slice A0 p.pool.length c0, .slice A1 p.classes.length c1, .slice A2 p.methods.length c2] 59)).alloc (.cells #[.slice B0 m.f0.length d0, .int .i64 m.f1, .slice B2 m.f2.length d2, .int .i64 m.f3, .slice B4 m.f4.length d4] 64)).alloc (.cells #[.int .i64 24, .int .i64 a, .int .i64 b, .int .i64 s] 25)) := (((Below.refl _ w).alloc (Nat.le_refl _) _).alloc (by simp) _).alloc (by simp; omega) _
  have HB0 := Lib.hid hB0
  clear hB0
  go_enter Tryd.func111, Tryd.ntmps111
  go_wp2_with fail
  refine (refs1 _).mono ?_
  rintro e w1 ⟨v1, rfl, ho1, hb1⟩
  have HO1 := Lib.hid ho1
  have HB1 := Lib.hid (HB0.out.trans (hb1.mono HB0.out.size))
  have HC1 := Lib.hid hb1
  clear ho1 hb1
  go_wp2_with fail
  refine (nums1 _).mono ?_
  rintro e w2 ⟨v2, rfl, ho2, hb2⟩
  have HO2 := Lib.hid ho2
  have HB2 := Lib.hid (HB1.out.trans (hb2.mono HB1.out.size))
  have HC2 := Lib.hid hb2
  clear ho2 hb2
  go_wp2_with fail
  go_ret2
  exact ⟨_, _, rfl, (RI.of_own HO1.out).below HC2.out, RI.of_own HO2.out, HB2.out⟩
set_option maxRecDepth 100000 in
set_option maxHeartbeats 800000 in
theorem moves_25 (a b s : Int) :
    Calls Tryd.prog 111 #[.agg #[.slice A0 p.pool.length c0, .slice A1 p.classes.length c1, .slice A2 p.methods.length c2], .agg #[.slice B0 m.f0.length d0, .int .i64 m.f1, .slice B2 m.f2.length d2, .int .i64 m.f3, .slice B4 m.f4.length d4], .agg #[.int .i64 25, .int .i64 a, .int .i64 b, .int .i64 s]] w (MvPost w (movesS p m 25 a b).1 (movesS p m 25 a b).2) := by
  show Calls _ _ _ _ (MvPost w [] [])
  have hB0 : Below w.heap.size w (((w.alloc (.cells #[.slice A0 p.pool.length c0, .slice A1 p.classes.length c1, .slice A2 p.methods.length c2] 59)).alloc (.cells #[.slice B0 m.f0.length d0, .int .i64 m.f1, .slice B2 m.f2.length d2, .int .i64 m.f3, .slice B4 m.f4.length d4] 64)).alloc (.cells #[.int .i64 25, .int .i64 a, .int .i64 b, .int .i64 s] 25)) := (((Below.refl _ w).alloc (Nat.le_refl _) _).alloc (by simp) _).alloc (by simp; omega) _
  have HB0 := Lib.hid hB0
  clear hB0
  go_enter Tryd.func111, Tryd.ntmps111
  go_wp2_with fail
  go_ret2
  exact ⟨_, _, rfl, RI.nil _, RI.nil _, HB0.out⟩
set_option maxRecDepth 100000 in
set_option maxHeartbeats 800000 in
theorem moves_26 (a b s : Int) :
    Calls Tryd.prog 111 #[.agg #[.slice A0 p.pool.length c0, .slice A1 p.classes.length c1, .slice A2 p.methods.length c2], .agg #[.slice B0 m.f0.length d0, .int .i64 m.f1, .slice B2 m.f2.length d2, .int .i64 m.f3, .slice B4 m.f4.length d4], .agg #[.int .i64 26, .int .i64 a, .int .i64 b, .int .i64 s]] w (MvPost w (movesS p m 26 a b).1 (movesS p m 26 a b).2) := by
  show Calls _ _ _ _ (MvPost w [1] [])
  have hB0 : Below w.heap.size w (((w.alloc (.cells #[.slice A0 p.pool.length c0, .slice A1 p.classes.length c1, .slice A2 p.methods.length c2] 59)).alloc (.cells #[.slice B0 m.f0.length d0, .int .i64 m.f1, .slice B2 m.f2.length d2, .int .i64 m.f3, .slice B4 m.f4.length d4] 64)).alloc (.cells #[.int .i64 26, .int .i64 a, .int .i64 b, .int .i64 s] 25)) := (((Below.refl _ w).alloc (Nat.le_refl _) _).alloc (by simp) _).alloc (by simp; omega) _
  have HB0 := Lib.hid hB0
  clear hB0
  go_enter Tryd.func111, Tryd.ntmps111
  go_wp2_with fail
  refine (nums1 _).mono ?_
  rintro e w1 ⟨v1, rfl, ho1, hb1⟩
  have HO1 := Lib.hid ho1
  have HB1 := Lib.hid (HB0.out.trans (hb1.mono HB0.out.size))
  have HC1 := Lib.hid hb1
  clear ho1 hb1
  go_wp2_with fail
  go_ret2
  exact ⟨_, _, rfl, RI.of_own HO1.out, RI.nil _, HB1.out⟩
set_option maxRecDepth 100000 in
set_option maxHeartbeats 800000 in
theorem moves_29 (a b s : Int) :
    Calls Tryd.prog 111 #[.agg #[.slice A0 p.pool.length c0, .slice A1 p.classes.length c1, .slice A2 p.methods.length c2], .agg #[.slice B0 m.f0.length d0, .int .i64 m.f1, .slice B2 m.f2.length d2, .int .i64 m.f3, .slice B4 m.f4.length d4], .agg #[.int .i64 29, .int .i64 a, .int .i64 b, .int .i64 s]] w (MvPost w (movesS p m 29 a b).1 (movesS p m 29 a b).2) := by
  show Calls _ _ _ _ (MvPost w [] [2])
  have hB0 : Below w.heap.size w (((w.alloc (.cells #[.slice A0 p.pool.length c0, .slice A1 p.classes.length c1, .slice A2 p.methods.length c2] 59)).alloc (.cells #[.slice B0 m.f0.length d0, .int .i64 m.f1, .slice B2 m.f2.length d2, .int .i64 m.f3, .slice B4 m.f4.length d4] 64)).alloc (.cells #[.int .i64 29, .int .i64 a, .int .i64 b, .int .i64 s] 25)) := (((Below.refl _ w).alloc (Nat.le_refl _) _).alloc (by simp) _).alloc (by simp; omega) _
  have HB0 := Lib.hid hB0
  clear hB0
  go_enter Tryd.func111, Tryd.ntmps111
  go_wp2_with fail
  refine (refs1 _).mono ?_
  rintro e w1 ⟨v1, rfl, ho1, hb1⟩
  have HO1 := Lib.hid ho1
  have HB1 := Lib.hid (HB0.out.trans (hb1.mono HB0.out.size))
  have HC1 := Lib.hid hb1
  clear ho1 hb1
  go_wp2_with fail
  go_ret2
  exact ⟨_, _, rfl, RI.nil _, RI.of_own HO1.out, HB1.out⟩
set_option maxRecDepth 100000 in
set_option maxHeartbeats 800000 in
theorem moves_32 (a b s : Int) :
    Calls Tryd.prog 111 #[.agg #[.slice A0 p.pool.length c0, .slice A1 p.classes.length c1, .slice A2 p.methods.length c2], .agg #[.slice B0 m.f0.length d0, .int .i64 m.f1, .slice B2 m.f2.length d2, .int .i64 m.f3, .slice B4 m.f4.length d4], .agg #[.int .i64 32, .int .i64 a, .int .i64 b, .int .i64 s]] w (MvPost w (movesS p m 32 a b).1 (movesS p m 32 a b).2) := by
  show Calls _ _ _ _ (MvPost w [1] [2])
  have hB0 : Below w.heap.size w (((w.alloc (.cells #[.slice A0 p.pool.length c0, .slice A1 p.classes.length c1, .slice A2 p.methods.length c2] 59)).alloc (.cells #[.slice B0 m.f0.length d0, .int .i64 m.f1, .slice B2 m.f2.length d2, .int .i64 m.f3, .slice B4 m.f4.length d4] 64)).alloc (.cells #[.int .i64 32, .int .i64 a, .int .i64 b, .int .i64 s] 25)) := (((Below.refl _ w).alloc (Nat.le_refl _) _).alloc (by simp) _).alloc (by simp; omega) _
  have HB0 := Lib.hid hB0
  clear hB0
  go_enter Tryd.func111, Tryd.ntmps111
  go_wp2_with fail
  refine (nums1 _).mono ?_
  rintro e w1 ⟨v1, rfl, ho1, hb1⟩
  have HO1 := Lib.hid ho1
  have HB1 := Lib.hid (HB0.out.trans (hb1.mono HB0.out.size))
  have HC1 := Lib.hid hb1
  clear ho1 hb1
  go_wp2_with fail
  refine (refs1 _).mono ?_
  rintro e w2 ⟨v2, rfl, ho2, hb2⟩
  have HO2 := Lib.hid ho2
  have HB2 := Lib.hid (HB1.out.trans (hb2.mono HB1.out.size))
  have HC2 := Lib.hid hb2
  clear ho2 hb2
  go_wp2_with fail
  go_ret2
  exact ⟨_, _, rfl, (RI.of_own HO1.out).below HC2.out, RI.of_own HO2.out, HB2.out⟩
set_option maxRecDepth 100000 in
set_option maxHeartbeats 800000 in
theorem moves_35 (a b s : Int) :
    Calls Tryd.prog 111 #[.agg #[.slice A0 p.pool.length c0, .slice A1 p.classes.length c1, .slice A2 p.methods.length c2], .agg #[.slice B0 m.f0.length d0, .int .i64 m.f1, .slice B2 m.f2.length d2, .int .i64 m.f3, .slice B4 m.f4.length d4], .agg #[.int .i64 35, .int .i64 a, .int .i64 b, .int .i64 s]] w (MvPost w (movesS p m 35 a b).1 (movesS p m 35 a b).2) := by
  show Calls _ _ _ _ (MvPost w [2] [1])
  have hB0 : Below w.heap.size w (((w.alloc (.cells #[.slice A0 p.pool.length c0, .slice A1 p.classes.length c1, .slice A2 p.methods.length c2] 59)).alloc (.cells #[.slice B0 m.f0.length d0, .int .i64 m.f1, .slice B2 m.f2.length d2, .int .i64 m.f3, .slice B4 m.f4.length d4] 64)).alloc (.cells #[.int .i64 35, .int .i64 a, .int .i64 b, .int .i64 s] 25)) := (((Below.refl _ w).alloc (Nat.le_refl _) _).alloc (by simp) _).alloc (by simp; omega) _
  have HB0 := Lib.hid hB0
  clear hB0
  go_enter Tryd.func111, Tryd.ntmps111
  go_wp2_with fail
  refine (refs1 _).mono ?_
  rintro e w1 ⟨v1, rfl, ho1, hb1⟩
  have HO1 := Lib.hid ho1
  have HB1 := Lib.hid (HB0.out.trans (hb1.mono HB0.out.size))
  have HC1 := Lib.hid hb1
  clear ho1 hb1
  go_wp2_with fail
  refine (nums1 _).mono ?_
  rintro e w2 ⟨v2, rfl, ho2, hb2⟩
  have HO2 := Lib.hid ho2
  have HB2 := Lib.hid (HB1.out.trans (hb2.mono HB1.out.size))
  have HC2 := Lib.hid hb2
  clear ho2 hb2
  go_wp2_with fail
  go_ret2
  exact ⟨_, _, rfl, (RI.of_own HO1.out).below HC2.out, RI.of_own HO2.out, HB2.out⟩
set_option maxRecDepth 100000 in
set_option maxHeartbeats 800000 in
theorem moves_36 (a b s : Int) :
    Calls Tryd.prog 111 #[.agg #[.slice A0 p.pool.length c0, .slice A1 p.classes.length c1, .slice A2 p.methods.length c2], .agg #[.slice B0 m.f0.length d0, .int .i64 m.f1, .slice B2 m.f2.length d2, .int .i64 m.f3, .slice B4 m.f4.length d4], .agg #[.int .i64 36, .int .i64 a, .int .i64 b, .int .i64 s]] w (MvPost w (movesS p m 36 a b).1 (movesS p m 36 a b).2) := by
  show Calls _ _ _ _ (MvPost w [2] [])
  have hB0 : Below w.heap.size w (((w.alloc (.cells #[.slice A0 p.pool.length c0, .slice A1 p.classes.length c1, .slice A2 p.methods.length c2] 59)).alloc (.cells #[.slice B0 m.f0.length d0, .int .i64 m.f1, .slice B2 m.f2.length d2, .int .i64 m.f3, .slice B4 m.f4.length d4] 64)).alloc (.cells #[.int .i64 36, .int .i64 a, .int .i64 b, .int .i64 s] 25)) := (((Below.refl _ w).alloc (Nat.le_refl _) _).alloc (by simp) _).alloc (by simp; omega) _
  have HB0 := Lib.hid hB0
  clear hB0
  go_enter Tryd.func111, Tryd.ntmps111
  go_wp2_with fail
  refine (refs1 _).mono ?_
  rintro e w1 ⟨v1, rfl, ho1, hb1⟩
  have HO1 := Lib.hid ho1
  have HB1 := Lib.hid (HB0.out.trans (hb1.mono HB0.out.size))
  have HC1 := Lib.hid hb1
  clear ho1 hb1
  go_wp2_with fail
  go_ret2
  exact ⟨_, _, rfl, RI.of_own HO1.out, RI.nil _, HB1.out⟩
set_option maxRecDepth 100000 in
set_option maxHeartbeats 800000 in
theorem moves_37 (a b s : Int) :
    Calls Tryd.prog 111 #[.agg #[.slice A0 p.pool.length c0, .slice A1 p.classes.length c1, .slice A2 p.methods.length c2], .agg #[.slice B0 m.f0.length d0, .int .i64 m.f1, .slice B2 m.f2.length d2, .int .i64 m.f3, .slice B4 m.f4.length d4], .agg #[.int .i64 37, .int .i64 a, .int .i64 b, .int .i64 s]] w (MvPost w (movesS p m 37 a b).1 (movesS p m 37 a b).2) := by
  show Calls _ _ _ _ (MvPost w [2] [])
  have hB0 : Below w.heap.size w (((w.alloc (.cells #[.slice A0 p.pool.length c0, .slice A1 p.classes.length c1, .slice A2 p.methods.length c2] 59)).alloc (.cells #[.slice B0 m.f0.length d0, .int .i64 m.f1, .slice B2 m.f2.length d2, .int .i64 m.f3, .slice B4 m.f4.length d4] 64)).alloc (.cells #[.int .i64 37, .int .i64 a, .int .i64 b, .int .i64 s] 25)) := (((Below.refl _ w).alloc (Nat.le_refl _) _).alloc (by simp) _).alloc (by simp; omega) _
  have HB0 := Lib.hid hB0
  clear hB0
  go_enter Tryd.func111, Tryd.ntmps111
  go_wp2_with fail
  refine (refs1 _).mono ?_
  rintro e w1 ⟨v1, rfl, ho1, hb1⟩
  have HO1 := Lib.hid ho1
  have HB1 := Lib.hid (HB0.out.trans (hb1.mono HB0.out.size))
  have HC1 := Lib.hid hb1
  clear ho1 hb1
  go_wp2_with fail
  go_ret2
  exact ⟨_, _, rfl, RI.of_own HO1.out, RI.nil _, HB1.out⟩
set_option maxRecDepth 100000 in
set_option maxHeartbeats 800000 in
theorem moves_38 (a b s : Int) :
    Calls Tryd.prog 111 #[.agg #[.slice A0 p.pool.length c0, .slice A1 p.classes.length c1, .slice A2 p.methods.length c2], .agg #[.slice B0 m.f0.length d0, .int .i64 m.f1, .slice B2 m.f2.length d2, .int .i64 m.f3, .slice B4 m.f4.length d4], .agg #[.int .i64 38, .int .i64 a, .int .i64 b, .int .i64 s]] w (MvPost w (movesS p m 38 a b).1 (movesS p m 38 a b).2) := by
  show Calls _ _ _ _ (MvPost w [2] [1])
  have hB0 : Below w.heap.size w (((w.alloc (.cells #[.slice A0 p.pool.length c0, .slice A1 p.classes.length c1, .slice A2 p.methods.length c2] 59)).alloc (.cells #[.slice B0 m.f0.length d0, .int .i64 m.f1, .slice B2 m.f2.length d2, .int .i64 m.f3, .slice B4 m.f4.length d4] 64)).alloc (.cells #[.int .i64 38, .int .i64 a, .int .i64 b, .int .i64 s] 25)) := (((Below.refl _ w).alloc (Nat.le_refl _) _).alloc (by simp) _).alloc (by simp; omega) _
  have HB0 := Lib.hid hB0
  clear hB0
  go_enter Tryd.func111, Tryd.ntmps111
  go_wp2_with fail
  refine (refs1 _).mono ?_
  rintro e w1 ⟨v1, rfl, ho1, hb1⟩
  have HO1 := Lib.hid ho1
  have HB1 := Lib.hid (HB0.out.trans (hb1.mono HB0.out.size))
  have HC1 := Lib.hid hb1
  clear ho1 hb1
  go_wp2_with fail
  refine (nums1 _).mono ?_
  rintro e w2 ⟨v2, rfl, ho2, hb2⟩
  have HO2 := Lib.hid ho2
  have HB2 := Lib.hid (HB1.out.trans (hb2.mono HB1.out.size))
  have HC2 := Lib.hid hb2
  clear ho2 hb2
  go_wp2_with fail
  go_ret2
  exact ⟨_, _, rfl, (RI.of_own HO1.out).below HC2.out, RI.of_own HO2.out, HB2.out⟩
set_option maxRecDepth 100000 in
set_option maxHeartbeats 800000 in
theorem moves_39 (a b s : Int) :
    Calls Tryd.prog 111 #[.agg #[.slice A0 p.pool.length c0, .slice A1 p.classes.length c1, .slice A2 p.methods.length c2], .agg #[.slice B0 m.f0.length d0, .int .i64 m.f1, .slice B2 m.f2.length d2, .int .i64 m.f3, .slice B4 m.f4.length d4], .agg #[.int .i64 39, .int .i64 a, .int .i64 b, .int .i64 s]] w (MvPost w (movesS p m 39 a b).1 (movesS p m 39 a b).2) := by
  show Calls _ _ _ _ (MvPost w [1] [])
  have hB0 : Below w.heap.size w (((w.alloc (.cells #[.slice A0 p.pool.length c0, .slice A1 p.classes.length c1, .slice A2 p.methods.length c2] 59)).alloc (.cells #[.slice B0 m.f0.length d0, .int .i64 m.f1, .slice B2 m.f2.length d2, .int .i64 m.f3, .slice B4 m.f4.length d4] 64)).alloc (.cells #[.int .i64 39, .int .i64 a, .int .i64 b, .int .i64 s] 25)) := (((Below.refl _ w).alloc (Nat.le_refl _) _).alloc (by simp) _).alloc (by simp; omega) _
  have HB0 := Lib.hid hB0
  clear hB0
  go_enter Tryd.func111, Tryd.ntmps111
  go_wp2_with fail
  refine (nums1 _).mono ?_
  rintro e w1 ⟨v1, rfl, ho1, hb1⟩
  have HO1 := Lib.hid ho1
  have HB1 := Lib.hid (HB0.out.trans (hb1.mono HB0.out.size))
  have HC1 := Lib.hid hb1
  clear ho1 hb1
  go_wp2_with fail
  go_ret2
  exact ⟨_, _, rfl, RI.of_own HO1.out, RI.nil _, HB1.out⟩
set_option maxRecDepth 100000 in
set_option maxHeartbeats 800000 in
theorem moves_40 (a b s : Int) :
    Calls Tryd.prog 111 #[.agg #[.slice A0 p.pool.length c0, .slice A1 p.classes.length c1, .slice A2 p.methods.length c2], .agg #[.slice B0 m.f0.length d0, .int .i64 m.f1, .slice B2 m.f2.length d2, .int .i64 m.f3, .slice B4 m.f4.length d4], .agg #[.int .i64 40, .int .i64 a, .int .i64 b, .int .i64 s]] w (MvPost w (movesS p m 40 a b).1 (movesS p m 40 a b).2) := by
  show Calls _ _ _ _ (MvPost w [1] [])
  have hB0 : Below w.heap.size w (((w.alloc (.cells #[.slice A0 p.pool.length c0, .slice A1 p.classes.length c1, .slice A2 p.methods.length c2] 59)).alloc (.cells #[.slice B0 m.f0.length d0, .int .i64 m.f1, .slice B2 m.f2.length d2, .int .i64 m.f3, .slice B4 m.f4.length d4] 64)).alloc (.cells #[.int .i64 40, .int .i64 a, .int .i64 b, .int .i64 s] 25)) := (((Below.refl _ w).alloc (Nat.le_refl _) _).alloc (by simp) _).alloc (by simp; omega) _
  have HB0 := Lib.hid hB0
  clear hB0
  go_enter Tryd.func111, Tryd.ntmps111
  go_wp2_with fail
  refine (nums1 _).mono ?_
  rintro e w1 ⟨v1, rfl, ho1, hb1⟩
  have HO1 := Lib.hid ho1
  have HB1 := Lib.hid (HB0.out.trans (hb1.mono HB0.out.size))
  have HC1 := Lib.hid hb1
  clear ho1 hb1
  go_wp2_with fail
  go_ret2
  exact ⟨_, _, rfl, RI.of_own HO1.out, RI.nil _, HB1.out⟩
end
end Go.Proofs.YtkphijabhoppnaaDoor
