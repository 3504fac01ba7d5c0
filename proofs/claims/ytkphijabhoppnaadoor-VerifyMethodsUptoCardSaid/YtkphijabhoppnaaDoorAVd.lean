/- What a bytecode takes and puts: the ways that read the program. -/
import Derived.Test.YtkphijabhoppnaaDoorAVc
import Derived.Deep.RegionHeld3
import Derived.Deep.AppendLies
namespace Go.Proofs.YtkphijabhoppnaaDoor
open Go.RowKit Go.Proofs.YtkphijabhoppnaaDoorW.PrintWords
set_option linter.unusedSimpArgs false
set_option linter.unusedVariables false
section
variable {w : World} {A0 A1 A2 B0 B2 B4 : Option Addr} {c0 c1 c2 d0 d2 d4 : Nat} {p : Pg} {m : Meth}
theorem heap_alloc2 (w : World) (o o' : Obj) : ((w.alloc o).alloc o').heap[w.heap.size + 1]? = some o' := by
  have := heap_alloc_new (w.alloc o) o'
  rwa [show (w.alloc o).heap.size = w.heap.size + 1 by simp] at this
theorem row_gr {X X' : World} {r : Option Nat} {g : Nat} {o : Obj} (hg : X.grownBy X' r) (ne : some g ≠ r) (h : X.heap[g]? = some o) : X'.heap[g]? = some o :=
  (hg.block g (Array.getElem?_eq_some_iff.1 h).1 ne).trans h
theorem row_drewV {w : World} {g : Nat} {o : Obj} (h : w.heap[g]? = some o) : w.drew.heap[g]? = some o := h
theorem info3V : (Tryd.prog.info? 3).map (fun i => (i.zero, i.size, i.bytes)) = some (some (.int .i64 0), 1, 8) := by kernel_rfl
theorem cellsV {W : World} {g : Nat} {x y z t : Value} {q : TypeId} {fr : Nat × Nat} (h : W.heap[g]? = some (Obj.cells #[x, y, z, t] q fr)) :
    W.cell? ⟨g, 0, none⟩ = some x ∧ W.cell? ⟨g, 1, none⟩ = some y ∧ W.cell? ⟨g, 2, none⟩ = some z ∧ W.cell? ⟨g, 3, none⟩ = some t :=
  ⟨(cell_of_row _ _ 0 _ _ _ h).trans rfl, (cell_of_row _ _ 1 _ _ _ h).trans rfl, (cell_of_row _ _ 2 _ _ _ h).trans rfl, (cell_of_row _ _ 3 _ _ _ h).trans rfl⟩
set_option maxRecDepth 100000 in
set_option maxHeartbeats 1600000 in
theorem moves_4 (a b s : Int) (hm : MtC w B0 d0 B2 d2 B4 d4 m) (ha : I64 a) :
    Calls Tryd.prog 111 #[.agg #[.slice A0 p.pool.length c0, .slice A1 p.classes.length c1, .slice A2 p.methods.length c2], .agg #[.slice B0 m.f0.length d0, .int .i64 m.f1, .slice B2 m.f2.length d2, .int .i64 m.f3, .slice B4 m.f4.length d4], .agg #[.int .i64 4, .int .i64 a, .int .i64 b, .int .i64 s]] w (MvPost w (movesS p m 4 a b).1 (movesS p m 4 a b).2) := by
  show Calls _ _ _ _ (MvPost w [] [(localS m a).1])
  obtain ⟨x, hx⟩ : ∃ x, (localS m a).1 = x := ⟨_, rfl⟩
  obtain ⟨y, hy⟩ : ∃ y, (localS m a).2 = y := ⟨_, rfl⟩
  have hL : ∀ W, Below w.heap.size w W → Calls Tryd.prog 106 #[.agg #[.slice B0 m.f0.length d0, .int .i64 m.f1, .slice B2 m.f2.length d2, .int .i64 m.f3, .slice B4 m.f4.length d4], .int .i64 a] W fun e w' => e = .returned (.tuple #[.int .i64 x, .bool y]) ∧ Below W.heap.size W w' := fun W h => hx ▸ hy ▸ local_calls a (hm.below h) ha
  rw [hx]
  have HL := Lib.hid hL
  clear hL hx hy hm ha
  go_enter Tryd.func111, Tryd.ntmps111
  go_wp2_with fail
  have hB0 : Below w.heap.size w (((w.alloc (.cells #[.slice A0 p.pool.length c0, .slice A1 p.classes.length c1, .slice A2 p.methods.length c2] 59)).alloc (.cells #[.slice B0 m.f0.length d0, .int .i64 m.f1, .slice B2 m.f2.length d2, .int .i64 m.f3, .slice B4 m.f4.length d4] 64)).alloc (.cells #[.int .i64 4, .int .i64 a, .int .i64 b, .int .i64 s] 25)) := (((Below.refl _ w).alloc (Nat.le_refl _) _).alloc (by simp) _).alloc (by simp; omega) _
  refine (HL.out _ hB0).mono ?_
  rintro e w1 ⟨rfl, hb1⟩
  obtain ⟨a0, a1, a2, a3⟩ := cellsV (row_kept hb1 (heap_alloc_new _ _))
  have HB1 := Lib.hid (hB0.trans (hb1.mono hB0.size))
  clear hb1 hB0
  simp only [World.alloc, Array.size_push] at a0 a1 a2 a3
  go_wp2_with fail
  go_ret2
  exact ⟨_, _, rfl, RI.nil _, RI.lit (l := [x]) (heap_alloc_new w1 _) (by simp [maxLen]), HB1.out.alloc HB1.out.size _⟩
set_option maxRecDepth 100000 in
set_option maxHeartbeats 1600000 in
theorem moves_5 (a b s : Int) (hm : MtC w B0 d0 B2 d2 B4 d4 m) (ha : I64 a) :
    Calls Tryd.prog 111 #[.agg #[.slice A0 p.pool.length c0, .slice A1 p.classes.length c1, .slice A2 p.methods.length c2], .agg #[.slice B0 m.f0.length d0, .int .i64 m.f1, .slice B2 m.f2.length d2, .int .i64 m.f3, .slice B4 m.f4.length d4], .agg #[.int .i64 5, .int .i64 a, .int .i64 b, .int .i64 s]] w (MvPost w (movesS p m 5 a b).1 (movesS p m 5 a b).2) := by
  show Calls _ _ _ _ (MvPost w [(localS m a).1] [])
  obtain ⟨x, hx⟩ : ∃ x, (localS m a).1 = x := ⟨_, rfl⟩
  obtain ⟨y, hy⟩ : ∃ y, (localS m a).2 = y := ⟨_, rfl⟩
  have hL : ∀ W, Below w.heap.size w W → Calls Tryd.prog 106 #[.agg #[.slice B0 m.f0.length d0, .int .i64 m.f1, .slice B2 m.f2.length d2, .int .i64 m.f3, .slice B4 m.f4.length d4], .int .i64 a] W fun e w' => e = .returned (.tuple #[.int .i64 x, .bool y]) ∧ Below W.heap.size W w' := fun W h => hx ▸ hy ▸ local_calls a (hm.below h) ha
  rw [hx]
  have HL := Lib.hid hL
  clear hL hx hy hm ha
  go_enter Tryd.func111, Tryd.ntmps111
  go_wp2_with fail
  have hB0 : Below w.heap.size w (((w.alloc (.cells #[.slice A0 p.pool.length c0, .slice A1 p.classes.length c1, .slice A2 p.methods.length c2] 59)).alloc (.cells #[.slice B0 m.f0.length d0, .int .i64 m.f1, .slice B2 m.f2.length d2, .int .i64 m.f3, .slice B4 m.f4.length d4] 64)).alloc (.cells #[.int .i64 5, .int .i64 a, .int .i64 b, .int .i64 s] 25)) := (((Below.refl _ w).alloc (Nat.le_refl _) _).alloc (by simp) _).alloc (by simp; omega) _
  refine (HL.out _ hB0).mono ?_
  rintro e w1 ⟨rfl, hb1⟩
  obtain ⟨a0, a1, a2, a3⟩ := cellsV (row_kept hb1 (heap_alloc_new _ _))
  have HB1 := Lib.hid (hB0.trans (hb1.mono hB0.size))
  clear hb1 hB0
  simp only [World.alloc, Array.size_push] at a0 a1 a2 a3
  go_wp2_with fail
  go_ret2
  exact ⟨_, _, rfl, RI.lit (l := [x]) (heap_alloc_new w1 _) (by simp [maxLen]), RI.nil _, HB1.out.alloc HB1.out.size _⟩
set_option maxRecDepth 100000 in
set_option maxHeartbeats 1600000 in
theorem moves_28 (a b s : Int) :
    Calls Tryd.prog 111 #[.agg #[.slice A0 p.pool.length c0, .slice A1 p.classes.length c1, .slice A2 p.methods.length c2], .agg #[.slice B0 m.f0.length d0, .int .i64 m.f1, .slice B2 m.f2.length d2, .int .i64 m.f3, .slice B4 m.f4.length d4], .agg #[.int .i64 28, .int .i64 a, .int .i64 b, .int .i64 s]] w (MvPost w (movesS p m 28 a b).1 (movesS p m 28 a b).2) := by
  show Calls _ _ _ _ (MvPost w (voidS m.f1) [])
  have hB0 : Below w.heap.size w (((w.alloc (.cells #[.slice A0 p.pool.length c0, .slice A1 p.classes.length c1, .slice A2 p.methods.length c2] 59)).alloc (.cells #[.slice B0 m.f0.length d0, .int .i64 m.f1, .slice B2 m.f2.length d2, .int .i64 m.f3, .slice B4 m.f4.length d4] 64)).alloc (.cells #[.int .i64 28, .int .i64 a, .int .i64 b, .int .i64 s] 25)) := (((Below.refl _ w).alloc (Nat.le_refl _) _).alloc (by simp) _).alloc (by simp; omega) _
  have HB0 := Lib.hid hB0
  clear hB0
  go_enter Tryd.func111, Tryd.ntmps111
  go_wp2_with fail
  refine (void_calls _ _).mono ?_
  rintro e w1 ⟨v1, rfl, ho1, hb1⟩
  have HO1 := Lib.hid ho1
  have HB1 := Lib.hid (HB0.out.trans (hb1.mono HB0.out.size))
  clear ho1 hb1
  go_wp2_with fail
  go_ret2
  exact ⟨_, _, rfl, RI.of_own HO1.out, RI.nil _, HB1.out⟩
set_option maxRecDepth 100000 in
set_option maxHeartbeats 1600000 in
theorem moves_27 (a b s : Int) (hp : PgC w A0 c0 A1 c1 A2 c2 p) (h0 : 0 ≤ a) (h1 : a < (p.methods.length : Int)) :
    Calls Tryd.prog 111 #[.agg #[.slice A0 p.pool.length c0, .slice A1 p.classes.length c1, .slice A2 p.methods.length c2], .agg #[.slice B0 m.f0.length d0, .int .i64 m.f1, .slice B2 m.f2.length d2, .int .i64 m.f3, .slice B4 m.f4.length d4], .agg #[.int .i64 27, .int .i64 a, .int .i64 b, .int .i64 s]] w (MvPost w (movesS p m 27 a b).1 (movesS p m 27 a b).2) := by
  show Calls _ _ _ _ (MvPost w (methS p a).f0 (voidS (methS p a).f1))
  obtain ⟨ad, E0, e0, E2, e2, E4, e4, rfl, k0, k1, -, -, -, l0, g0, -⟩ := PVerifyMethods.at_T64 hp.r2 a h0 h1
  change w.cell? (ad.add (a.toNat * 5)) = some (.slice E0 (methS p a).f0.length e0) at k0
  change w.cell? ⟨(ad.add (a.toNat * 5)).block, (ad.add (a.toNat * 5)).off + 1, none⟩ = some (.int .i64 (methS p a).f1) at k1
  change (methS p a).f0.length ≤ e0 at l0
  change (Kd.int .i64).C w E0 (methS p a).f0.length (methS p a).f0 at g0
  generalize (methS p a).f0 = F0 at k0 l0 g0 ⊢
  generalize (methS p a).f1 = F1 at k1 ⊢
  have hB0 : Below w.heap.size w (((w.alloc (.cells #[.slice A0 p.pool.length c0, .slice A1 p.classes.length c1, .slice (some ad) p.methods.length c2] 59)).alloc (.cells #[.slice B0 m.f0.length d0, .int .i64 m.f1, .slice B2 m.f2.length d2, .int .i64 m.f3, .slice B4 m.f4.length d4] 64)).alloc (.cells #[.int .i64 27, .int .i64 a, .int .i64 b, .int .i64 s] 25)) := (((Below.refl _ w).alloc (Nat.le_refl _) _).alloc (by simp) _).alloc (by simp; omega) _
  have k0' := cell_be hB0 k0
  have k1' := cell_be hB0 k1
  have hn : (0 : Int) < (p.methods.length : Int) := by omega
  have r3 := heap_alloc_new ((w.alloc (.cells #[.slice A0 p.pool.length c0, .slice A1 p.classes.length c1, .slice (some ad) p.methods.length c2] 59)).alloc (.cells #[.slice B0 m.f0.length d0, .int .i64 m.f1, .slice B2 m.f2.length d2, .int .i64 m.f3, .slice B4 m.f4.length d4] 64)) (.cells #[.int .i64 27, .int .i64 a, .int .i64 b, .int .i64 s] 25)
  have r1 := row_alloc (row_alloc (heap_alloc_new w (.cells #[.slice A0 p.pool.length c0, .slice A1 p.classes.length c1, .slice (some ad) p.methods.length c2] 59)) (.cells #[.slice B0 m.f0.length d0, .int .i64 m.f1, .slice B2 m.f2.length d2, .int .i64 m.f3, .slice B4 m.f4.length d4] 64)) (.cells #[.int .i64 27, .int .i64 a, .int .i64 b, .int .i64 s] 25)
  have q1 := (cell_of_row _ _ 2 _ _ _ r1).trans rfl
  have q3 := (cell_of_row _ _ 1 _ _ _ r3).trans rfl
  have e3 : ((w.alloc (.cells #[.slice A0 p.pool.length c0, .slice A1 p.classes.length c1, .slice (some ad) p.methods.length c2] 59)).alloc (.cells #[.slice B0 m.f0.length d0, .int .i64 m.f1, .slice B2 m.f2.length d2, .int .i64 m.f3, .slice B4 m.f4.length d4] 64)).heap.size = w.heap.size + 1 + 1 := by simp
  rw [e3] at q3
  clear r1 r3 e3
  have HB0 := Lib.hid hB0
  have G0 := Lib.hid g0
  clear hB0 g0 hp k0 k1
  go_enter Tryd.func111, Tryd.ntmps111
  go_wp2_with fail
  generalize ((w.alloc (.cells #[.slice A0 p.pool.length c0, .slice A1 p.classes.length c1, .slice (some ad) p.methods.length c2] 59)).alloc (.cells #[.slice B0 m.f0.length d0, .int .i64 m.f1, .slice B2 m.f2.length d2, .int .i64 m.f3, .slice B4 m.f4.length d4] 64)).alloc (.cells #[.int .i64 27, .int .i64 a, .int .i64 b, .int .i64 s] 25) = W at k0' k1' q1 q3 HB0 ⊢
  go_region_held3 (fun w' => w'.cell? (ad.add (a.toNat * 5)) = some (.slice E0 F0.length e0) ∧ w'.cell? ⟨(ad.add (a.toNat * 5)).block, (ad.add (a.toNat * 5)).off + 1, none⟩ = some (.int .i64 F1) ∧ w'.cell? ⟨w.heap.size, 2, none⟩ = some (.slice (some ad) p.methods.length c2) ∧ w'.cell? ⟨w.heap.size + 1 + 1, 1, none⟩ = some (.int .i64 a))
    (first | go_keep | (refine ⟨cell_be hb1 ?_, cell_be hb1 ?_, cell_be hb1 ?_, cell_be hb1 ?_⟩ <;> simp [*]))
    ((go_at_call 142; refine (void_calls _ _).mono ?_; rintro e w1 ⟨v1, rfl, ho1, hb1⟩))
  have HO1 := Lib.hid ho1
  have HB1 := Lib.hid (HB0.out.drew.trans (hb1.mono HB0.out.size))
  clear ho1 hb1
  go_wp2_with fail
  go_ret2
  exact ⟨_, _, rfl, ⟨E0, e0, rfl, l0, Kd.C_below G0.out HB1.out⟩, RI.of_own HO1.out, HB1.out⟩
set_option maxRecDepth 100000 in
set_option maxHeartbeats 1600000 in
theorem moves_30 (a b s : Int) (hp : PgC w A0 c0 A1 c1 A2 c2 p) :
    Calls Tryd.prog 111 #[.agg #[.slice A0 p.pool.length c0, .slice A1 p.classes.length c1, .slice A2 p.methods.length c2], .agg #[.slice B0 m.f0.length d0, .int .i64 m.f1, .slice B2 m.f2.length d2, .int .i64 m.f3, .slice B4 m.f4.length d4], .agg #[.int .i64 30, .int .i64 a, .int .i64 b, .int .i64 s]] w (MvPost w (movesS p m 30 a b).1 (movesS p m 30 a b).2) := by
  show Calls _ _ _ _ (MvPost w [2] [(fieldS p a b).1])
  obtain ⟨x, hx⟩ : ∃ x, (fieldS p a b).1 = x := ⟨_, rfl⟩
  obtain ⟨y, hy⟩ : ∃ y, (fieldS p a b).2.1 = y := ⟨_, rfl⟩
  obtain ⟨z, hz⟩ : ∃ z, (fieldS p a b).2.2 = z := ⟨_, rfl⟩
  have hL : ∀ W, Below w.heap.size w W → Calls Tryd.prog 107 #[.agg #[.slice A0 p.pool.length c0, .slice A1 p.classes.length c1, .slice A2 p.methods.length c2], .int .i64 a, .int .i64 b] W fun e w' => e = .returned (.tuple #[.agg #[.int .i64 x, .bool y], .bool z]) ∧ Below W.heap.size W w' := fun W h => hx ▸ hy ▸ hz ▸ field_calls a b (hp.below h)
  rw [hx]
  have HL := Lib.hid hL
  clear hL hx hy hz hp
  go_enter Tryd.func111, Tryd.ntmps111
  go_wp2_with fail
  have hB0 : Below w.heap.size w (((w.alloc (.cells #[.slice A0 p.pool.length c0, .slice A1 p.classes.length c1, .slice A2 p.methods.length c2] 59)).alloc (.cells #[.slice B0 m.f0.length d0, .int .i64 m.f1, .slice B2 m.f2.length d2, .int .i64 m.f3, .slice B4 m.f4.length d4] 64)).alloc (.cells #[.int .i64 30, .int .i64 a, .int .i64 b, .int .i64 s] 25)) := (((Below.refl _ w).alloc (Nat.le_refl _) _).alloc (by simp) _).alloc (by simp; omega) _
  refine (HL.out _ hB0).mono ?_
  rintro e w1 ⟨rfl, hb1⟩
  obtain ⟨a0, a1, a2, a3⟩ := cellsV (row_kept hb1 (heap_alloc_new _ _))
  have HB1 := Lib.hid (hB0.trans (hb1.mono hB0.size))
  clear hb1 hB0
  simp only [World.alloc, Array.size_push] at a0 a1 a2 a3
  have h2 : w.heap.size + 1 + 1 < w1.heap.size := block_lt_of_cell a0
  go_wp2_with fail
  have q0 := (cell_of_row _ _ 0 _ _ _ (heap_alloc_new w1 (.cells #[.int .i64 x, .bool y] 179))).trans rfl
  have HB2 := Lib.hid (HB1.out.alloc HB1.out.size (.cells #[.int .i64 x, .bool y] 179))
  have hz2 : w1.heap.size < (w1.alloc (.cells #[.int .i64 x, .bool y] 179)).heap.size := by simp
  generalize w1.alloc (.cells #[.int .i64 x, .bool y] 179) = W at q0 HB2 hz2 ⊢
  clear a0 a1 a2 a3
  go_region_held3 (fun w' => w'.cell? ⟨w1.heap.size, 0, none⟩ = some (.int .i64 x)) (first | go_keep | (exact cell_be hb3 (by simp [*])))
    ((go_at_call 141; refine (refs1 _).mono ?_; rintro e w3 ⟨v3, rfl, ho3, hb3⟩))
  all_goals
    have HO3 := Lib.hid ho3
    have HB3 := Lib.hid hb3
    clear ho3 hb3
    go_wp2_with fail
    go_ret2
    first
    | exact ⟨_, _, rfl, (RI.of_own HO3.out).below ((Below.refl _ _).alloc (Nat.le_refl _) _), RI.lit (l := [x]) (heap_alloc_new w3 _) (by simp [maxLen]), (HB2.out.drew.trans (HB3.out.mono HB2.out.size)).alloc (Nat.le_trans HB2.out.size HB3.out.size) _⟩
    | exact ⟨_, _, rfl, RI.of_own HO3.out, (RI.lit (l := [x]) (w := (W.alloc _).drew) (heap_alloc_new W _) (by simp [maxLen])).below HB3.out, ((HB2.out.alloc HB2.out.size _).drew).trans (HB3.out.mono (HB2.out.alloc HB2.out.size _).size)⟩
set_option maxRecDepth 100000 in
set_option maxHeartbeats 1600000 in
theorem moves_31 (a b s : Int) (hp : PgC w A0 c0 A1 c1 A2 c2 p) :
    Calls Tryd.prog 111 #[.agg #[.slice A0 p.pool.length c0, .slice A1 p.classes.length c1, .slice A2 p.methods.length c2], .agg #[.slice B0 m.f0.length d0, .int .i64 m.f1, .slice B2 m.f2.length d2, .int .i64 m.f3, .slice B4 m.f4.length d4], .agg #[.int .i64 31, .int .i64 a, .int .i64 b, .int .i64 s]] w (MvPost w (movesS p m 31 a b).1 (movesS p m 31 a b).2) := by
  show Calls _ _ _ _ (MvPost w [2, (fieldS p a b).1] [])
  obtain ⟨x, hx⟩ : ∃ x, (fieldS p a b).1 = x := ⟨_, rfl⟩
  obtain ⟨y, hy⟩ : ∃ y, (fieldS p a b).2.1 = y := ⟨_, rfl⟩
  obtain ⟨z, hz⟩ : ∃ z, (fieldS p a b).2.2 = z := ⟨_, rfl⟩
  have hL : ∀ W, Below w.heap.size w W → Calls Tryd.prog 107 #[.agg #[.slice A0 p.pool.length c0, .slice A1 p.classes.length c1, .slice A2 p.methods.length c2], .int .i64 a, .int .i64 b] W fun e w' => e = .returned (.tuple #[.agg #[.int .i64 x, .bool y], .bool z]) ∧ Below W.heap.size W w' := fun W h => hx ▸ hy ▸ hz ▸ field_calls a b (hp.below h)
  rw [hx]
  obtain ⟨i0, hi0, hz0, hz1, hz2⟩ := info_parts info3V
  have HL := Lib.hid hL
  clear hL hx hy hz hp
  go_enter Tryd.func111, Tryd.ntmps111
  go_wp2_with fail
  have hB0 : Below w.heap.size w (((w.alloc (.cells #[.slice A0 p.pool.length c0, .slice A1 p.classes.length c1, .slice A2 p.methods.length c2] 59)).alloc (.cells #[.slice B0 m.f0.length d0, .int .i64 m.f1, .slice B2 m.f2.length d2, .int .i64 m.f3, .slice B4 m.f4.length d4] 64)).alloc (.cells #[.int .i64 31, .int .i64 a, .int .i64 b, .int .i64 s] 25)) := (((Below.refl _ w).alloc (Nat.le_refl _) _).alloc (by simp) _).alloc (by simp; omega) _
  refine (HL.out _ hB0).mono ?_
  rintro e w1 ⟨rfl, hb1⟩
  obtain ⟨a0, a1, a2, a3⟩ := cellsV (row_kept hb1 (heap_alloc_new _ _))
  have HB1 := Lib.hid (hB0.trans (hb1.mono hB0.size))
  clear hb1 hB0
  simp only [World.alloc, Array.size_push] at a0 a1 a2 a3
  have h2 : w.heap.size + 1 + 1 < w1.heap.size := block_lt_of_cell a0
  go_wp2_with fail
  have q0 := (cell_of_row _ _ 0 _ _ _ (heap_alloc_new w1 (.cells #[.int .i64 x, .bool y] 179))).trans rfl
  have HB2 := Lib.hid (HB1.out.alloc HB1.out.size (.cells #[.int .i64 x, .bool y] 179))
  have hz2' : w1.heap.size < (w1.alloc (.cells #[.int .i64 x, .bool y] 179)).heap.size := by simp
  generalize w1.alloc (.cells #[.int .i64 x, .bool y] 179) = W at q0 HB2 hz2' ⊢
  clear a0 a1 a2 a3
  go_region_held3 (fun w' => w'.cell? ⟨w1.heap.size, 0, none⟩ = some (.int .i64 x)) (first | go_keep | (exact cell_be hb3 (by simp [*])) | (exact cell_gr hgrow4 (by intro e; have := row_ge ho3 _ e.symm; simp at this; omega) (cell_al (cell_be hb3 q0) _)) | (exact cell_gr hgrow4 (by intro e; have := row_ge ho3 _ e.symm; simp at this; omega) (cell_be hb3 (cell_al q0 _))) | (exact cell_gr hgrow4 (by intro e; have := row_ge ho3 _ e.symm; simp at this; omega) (cell_al (cell_al (cell_be hb3 q0) _) _)) | (exact cell_gr hgrow4 (by intro e; have := row_ge ho3 _ e.symm; simp at this; omega) (cell_al (cell_be hb3 (cell_al q0 _)) _)) | (exact cell_gr hgrow4 (by intro e; have := row_ge ho3 _ e.symm; simp at this; omega) (cell_be hb3 (cell_al (cell_al q0 _) _))))
    ((first
      | (go_at_call 141; refine (refs1 _).mono ?_; rintro e w3 ⟨v3, rfl, ho3, hb3⟩)
      | (refine step_append_lies _ (by rfl) _ _ _ (by rfl) _ 3 i0 (.int .i64 0) 1 8 Tryd.underlying33 hi0 hz0 hz1 hz2 rfl (by omega) v3 1 (nums .i64 [2]) (by rfl) (ho3.alloc _) ⟨w3.heap.size, 0, none⟩ 1 1 [.int .i64 x] (by rfl) (by rfl) (World.news_of_block (cs := #[.int .i64 x]) (t := 3) (fr := (0, 0)) (heap_alloc_new w3 _)) (by simp [Value.oneCell']) (by omega) (by simp [maxLen]) (by omega) (by have := hb3.size; simp at this ⊢; omega) _ rfl ?_; intro gg cap w4 hown4 hgrow4 hat hlt)
      | (refine step_append_lies _ (by rfl) _ _ _ (by rfl) _ 3 i0 (.int .i64 0) 1 8 Tryd.underlying33 hi0 hz0 hz1 hz2 rfl (by omega) v3 1 (nums .i64 [2]) (by rfl) ho3 ⟨W.heap.size, 0, none⟩ 1 1 [.int .i64 x] (by rfl) (by rfl) (World.news_of_block (cs := #[.int .i64 x]) (t := 3) (fr := (0, 0)) (row_kept hb3 (row_drewV (heap_alloc_new W _)))) (by simp [Value.oneCell']) (by omega) (by simp [maxLen]) (by omega) (by have := hb3.size; simp at this ⊢; omega) _ rfl ?_; intro gg cap w4 hown4 hgrow4 hat hlt)
      | (refine step_append_lies _ (by rfl) _ _ _ (by rfl) _ 3 i0 (.int .i64 0) 1 8 Tryd.underlying33 hi0 hz0 hz1 hz2 rfl (by omega) v3 1 (nums .i64 [2]) (by rfl) ((ho3.alloc _).alloc _) ⟨w3.heap.size, 0, none⟩ 1 1 [.int .i64 x] (by rfl) (by rfl) (World.news_of_block (cs := #[.int .i64 x]) (t := 3) (fr := (0, 0)) (row_alloc (heap_alloc_new w3 _) _)) (by simp [Value.oneCell']) (by omega) (by simp [maxLen]) (by omega) (by have := hb3.size; simp at this ⊢; omega) _ rfl ?_; intro gg cap w4 hown4 hgrow4 hat hlt)
      | (refine step_append_lies _ (by rfl) _ _ _ (by rfl) _ 3 i0 (.int .i64 0) 1 8 Tryd.underlying33 hi0 hz0 hz1 hz2 rfl (by omega) v3 1 (nums .i64 [2]) (by rfl) ((ho3.alloc _).alloc _) ⟨w3.heap.size + 1, 0, none⟩ 1 1 [.int .i64 x] (by rfl) (by rfl) (World.news_of_block (cs := #[.int .i64 x]) (t := 3) (fr := (0, 0)) (heap_alloc2 w3 _ _)) (by simp [Value.oneCell']) (by omega) (by simp [maxLen]) (by omega) (by have := hb3.size; simp at this ⊢; omega) _ rfl ?_; intro gg cap w4 hown4 hgrow4 hat hlt)
      | (refine step_append_lies _ (by rfl) _ _ _ (by rfl) _ 3 i0 (.int .i64 0) 1 8 Tryd.underlying33 hi0 hz0 hz1 hz2 rfl (by omega) v3 1 (nums .i64 [2]) (by rfl) (ho3.alloc _) ⟨W.heap.size, 0, none⟩ 1 1 [.int .i64 x] (by rfl) (by rfl) (World.news_of_block (cs := #[.int .i64 x]) (t := 3) (fr := (0, 0)) (row_alloc (row_kept hb3 (row_drewV (heap_alloc_new W _))) _)) (by simp [Value.oneCell']) (by omega) (by simp [maxLen]) (by omega) (by have := hb3.size; simp at this ⊢; omega) _ rfl ?_; intro gg cap w4 hown4 hgrow4 hat hlt)
      | (refine step_append_lies _ (by rfl) _ _ _ (by rfl) _ 3 i0 (.int .i64 0) 1 8 Tryd.underlying33 hi0 hz0 hz1 hz2 rfl (by omega) v3 1 (nums .i64 [2]) (by rfl) ho3 ⟨W.heap.size, 0, none⟩ 1 1 [.int .i64 x] (by rfl) (by rfl) (World.news_of_block (cs := #[.int .i64 x]) (t := 3) (fr := (0, 0)) (row_kept hb3 (row_drewV (row_alloc (heap_alloc_new W _) _)))) (by simp [Value.oneCell']) (by omega) (by simp [maxLen]) (by omega) (by have := hb3.size; simp at this ⊢; omega) _ rfl ?_; intro gg cap w4 hown4 hgrow4 hat hlt)
      | (refine step_append_lies _ (by rfl) _ _ _ (by rfl) _ 3 i0 (.int .i64 0) 1 8 Tryd.underlying33 hi0 hz0 hz1 hz2 rfl (by omega) v3 1 (nums .i64 [2]) (by rfl) ho3 ⟨W.heap.size + 1, 0, none⟩ 1 1 [.int .i64 x] (by rfl) (by rfl) (World.news_of_block (cs := #[.int .i64 x]) (t := 3) (fr := (0, 0)) (row_kept hb3 (row_drewV (heap_alloc2 W _ _)))) (by simp [Value.oneCell']) (by omega) (by simp [maxLen]) (by omega) (by have := hb3.size; simp at this ⊢; omega) _ rfl ?_; intro gg cap w4 hown4 hgrow4 hat hlt)))
  all_goals
    have HO3 := Lib.hid ho3
    have HB3 := Lib.hid hb3
    have HO4 := Lib.hid hown4
    have HG4 := Lib.hid hgrow4
    clear ho3 hb3 hown4 hgrow4 hat hlt
    go_wp2_with fail
    go_ret2
    have hs := HB2.out.size
    have ht := HB3.out.size
    simp at ht
    first
    | exact ⟨_, _, rfl, RI.of_own (l := [2, x]) HO4.out, RI.nil _, ((HB2.out.drew.trans (HB3.out.mono hs)).alloc (by omega) _).grown HG4.out (by simp; omega) (own_base (row_base HO3.out hs))⟩
    | exact ⟨_, _, rfl, RI.of_own (l := [2, x]) HO4.out, RI.nil _, (((HB2.out.alloc hs _).drew).trans (HB3.out.mono (HB2.out.alloc hs _).size)).grown HG4.out (by omega) (own_base (row_base HO3.out (by simp; omega)))⟩
set_option maxRecDepth 100000 in
set_option maxHeartbeats 1600000 in
theorem moves_34 (a b s : Int) :
    Calls Tryd.prog 111 #[.agg #[.slice A0 p.pool.length c0, .slice A1 p.classes.length c1, .slice A2 p.methods.length c2], .agg #[.slice B0 m.f0.length d0, .int .i64 m.f1, .slice B2 m.f2.length d2, .int .i64 m.f3, .slice B4 m.f4.length d4], .agg #[.int .i64 34, .int .i64 a, .int .i64 b, .int .i64 s]] w (MvPost w (movesS p m 34 a b).1 (movesS p m 34 a b).2) := by
  show Calls _ _ _ _ (MvPost w [2, 1, a] [])
  obtain ⟨i0, hi0, hz0, hz1, hz2⟩ := info_parts info3V
  have hB0 : Below w.heap.size w (((w.alloc (.cells #[.slice A0 p.pool.length c0, .slice A1 p.classes.length c1, .slice A2 p.methods.length c2] 59)).alloc (.cells #[.slice B0 m.f0.length d0, .int .i64 m.f1, .slice B2 m.f2.length d2, .int .i64 m.f3, .slice B4 m.f4.length d4] 64)).alloc (.cells #[.int .i64 34, .int .i64 a, .int .i64 b, .int .i64 s] 25)) := (((Below.refl _ w).alloc (Nat.le_refl _) _).alloc (by simp) _).alloc (by simp; omega) _
  have r3 := heap_alloc_new ((w.alloc (.cells #[.slice A0 p.pool.length c0, .slice A1 p.classes.length c1, .slice A2 p.methods.length c2] 59)).alloc (.cells #[.slice B0 m.f0.length d0, .int .i64 m.f1, .slice B2 m.f2.length d2, .int .i64 m.f3, .slice B4 m.f4.length d4] 64)) (.cells #[.int .i64 34, .int .i64 a, .int .i64 b, .int .i64 s] 25)
  have q0 := (cell_of_row _ _ 1 _ _ _ r3).trans rfl
  have e3 : ((w.alloc (.cells #[.slice A0 p.pool.length c0, .slice A1 p.classes.length c1, .slice A2 p.methods.length c2] 59)).alloc (.cells #[.slice B0 m.f0.length d0, .int .i64 m.f1, .slice B2 m.f2.length d2, .int .i64 m.f3, .slice B4 m.f4.length d4] 64)).heap.size = w.heap.size + 1 + 1 := by simp
  rw [e3] at q0
  clear r3 e3
  have HB2 := Lib.hid hB0
  clear hB0
  go_enter Tryd.func111, Tryd.ntmps111
  go_wp2_with fail
  have hzW : w.heap.size + 1 + 1 < (((w.alloc (.cells #[.slice A0 p.pool.length c0, .slice A1 p.classes.length c1, .slice A2 p.methods.length c2] 59)).alloc (.cells #[.slice B0 m.f0.length d0, .int .i64 m.f1, .slice B2 m.f2.length d2, .int .i64 m.f3, .slice B4 m.f4.length d4] 64)).alloc (.cells #[.int .i64 34, .int .i64 a, .int .i64 b, .int .i64 s] 25)).heap.size := by simp
  generalize (((w.alloc (.cells #[.slice A0 p.pool.length c0, .slice A1 p.classes.length c1, .slice A2 p.methods.length c2] 59)).alloc (.cells #[.slice B0 m.f0.length d0, .int .i64 m.f1, .slice B2 m.f2.length d2, .int .i64 m.f3, .slice B4 m.f4.length d4] 64)).alloc (.cells #[.int .i64 34, .int .i64 a, .int .i64 b, .int .i64 s] 25)) = W at q0 HB2 hzW ⊢
  go_region_held3 (fun w' => w'.cell? ⟨w.heap.size + 1 + 1, 1, none⟩ = some (.int .i64 a)) (first | go_keep | (exact cell_be hb3 (by simp [*])) | (exact cell_gr hgrow4 (by intro e; have := row_ge ho3 _ e.symm; simp at this; omega) (cell_al (cell_be hb3 q0) _)) | (exact cell_gr hgrow4 (by intro e; have := row_ge ho3 _ e.symm; simp at this; omega) (cell_be hb3 (cell_al q0 _))) | (exact cell_gr hgrow4 (by intro e; have := row_ge ho3 _ e.symm; simp at this; omega) (cell_al (cell_al (cell_be hb3 q0) _) _)) | (exact cell_gr hgrow4 (by intro e; have := row_ge ho3 _ e.symm; simp at this; omega) (cell_al (cell_be hb3 (cell_al q0 _)) _)) | (exact cell_gr hgrow4 (by intro e; have := row_ge ho3 _ e.symm; simp at this; omega) (cell_be hb3 (cell_al (cell_al q0 _) _))))
    ((first
      | (go_at_call 141; refine (refs1 _).mono ?_; rintro e w3 ⟨v3, rfl, ho3, hb3⟩)
      | (refine step_append_lies _ (by rfl) _ _ _ (by rfl) _ 3 i0 (.int .i64 0) 1 8 Tryd.underlying33 hi0 hz0 hz1 hz2 rfl (by omega) v3 1 (nums .i64 [2]) (by rfl) (ho3.alloc _) ⟨w3.heap.size, 0, none⟩ 2 2 [.int .i64 1, .int .i64 a] (by rfl) (by rfl) (World.news_of_block (cs := #[.int .i64 1, .int .i64 a]) (t := 3) (fr := (0, 0)) (heap_alloc_new w3 _)) (by simp [Value.oneCell']) (by omega) (by simp [maxLen]) (by omega) (by have := hb3.size; simp at this ⊢; omega) _ rfl ?_; intro gg cap w4 hown4 hgrow4 hat hlt)
      | (refine step_append_lies _ (by rfl) _ _ _ (by rfl) _ 3 i0 (.int .i64 0) 1 8 Tryd.underlying33 hi0 hz0 hz1 hz2 rfl (by omega) v3 1 (nums .i64 [2]) (by rfl) ho3 ⟨W.heap.size, 0, none⟩ 2 2 [.int .i64 1, .int .i64 a] (by rfl) (by rfl) (World.news_of_block (cs := #[.int .i64 1, .int .i64 a]) (t := 3) (fr := (0, 0)) (row_kept hb3 (row_drewV (heap_alloc_new W _)))) (by simp [Value.oneCell']) (by omega) (by simp [maxLen]) (by omega) (by have := hb3.size; simp at this ⊢; omega) _ rfl ?_; intro gg cap w4 hown4 hgrow4 hat hlt)
      | (refine step_append_lies _ (by rfl) _ _ _ (by rfl) _ 3 i0 (.int .i64 0) 1 8 Tryd.underlying33 hi0 hz0 hz1 hz2 rfl (by omega) v3 1 (nums .i64 [2]) (by rfl) ((ho3.alloc _).alloc _) ⟨w3.heap.size, 0, none⟩ 2 2 [.int .i64 1, .int .i64 a] (by rfl) (by rfl) (World.news_of_block (cs := #[.int .i64 1, .int .i64 a]) (t := 3) (fr := (0, 0)) (row_alloc (heap_alloc_new w3 _) _)) (by simp [Value.oneCell']) (by omega) (by simp [maxLen]) (by omega) (by have := hb3.size; simp at this ⊢; omega) _ rfl ?_; intro gg cap w4 hown4 hgrow4 hat hlt)
      | (refine step_append_lies _ (by rfl) _ _ _ (by rfl) _ 3 i0 (.int .i64 0) 1 8 Tryd.underlying33 hi0 hz0 hz1 hz2 rfl (by omega) v3 1 (nums .i64 [2]) (by rfl) ((ho3.alloc _).alloc _) ⟨w3.heap.size + 1, 0, none⟩ 2 2 [.int .i64 1, .int .i64 a] (by rfl) (by rfl) (World.news_of_block (cs := #[.int .i64 1, .int .i64 a]) (t := 3) (fr := (0, 0)) (heap_alloc2 w3 _ _)) (by simp [Value.oneCell']) (by omega) (by simp [maxLen]) (by omega) (by have := hb3.size; simp at this ⊢; omega) _ rfl ?_; intro gg cap w4 hown4 hgrow4 hat hlt)
      | (refine step_append_lies _ (by rfl) _ _ _ (by rfl) _ 3 i0 (.int .i64 0) 1 8 Tryd.underlying33 hi0 hz0 hz1 hz2 rfl (by omega) v3 1 (nums .i64 [2]) (by rfl) (ho3.alloc _) ⟨W.heap.size, 0, none⟩ 2 2 [.int .i64 1, .int .i64 a] (by rfl) (by rfl) (World.news_of_block (cs := #[.int .i64 1, .int .i64 a]) (t := 3) (fr := (0, 0)) (row_alloc (row_kept hb3 (row_drewV (heap_alloc_new W _))) _)) (by simp [Value.oneCell']) (by omega) (by simp [maxLen]) (by omega) (by have := hb3.size; simp at this ⊢; omega) _ rfl ?_; intro gg cap w4 hown4 hgrow4 hat hlt)
      | (refine step_append_lies _ (by rfl) _ _ _ (by rfl) _ 3 i0 (.int .i64 0) 1 8 Tryd.underlying33 hi0 hz0 hz1 hz2 rfl (by omega) v3 1 (nums .i64 [2]) (by rfl) ho3 ⟨W.heap.size, 0, none⟩ 2 2 [.int .i64 1, .int .i64 a] (by rfl) (by rfl) (World.news_of_block (cs := #[.int .i64 1, .int .i64 a]) (t := 3) (fr := (0, 0)) (row_kept hb3 (row_drewV (row_alloc (heap_alloc_new W _) _)))) (by simp [Value.oneCell']) (by omega) (by simp [maxLen]) (by omega) (by have := hb3.size; simp at this ⊢; omega) _ rfl ?_; intro gg cap w4 hown4 hgrow4 hat hlt)
      | (refine step_append_lies _ (by rfl) _ _ _ (by rfl) _ 3 i0 (.int .i64 0) 1 8 Tryd.underlying33 hi0 hz0 hz1 hz2 rfl (by omega) v3 1 (nums .i64 [2]) (by rfl) ho3 ⟨W.heap.size + 1, 0, none⟩ 2 2 [.int .i64 1, .int .i64 a] (by rfl) (by rfl) (World.news_of_block (cs := #[.int .i64 1, .int .i64 a]) (t := 3) (fr := (0, 0)) (row_kept hb3 (row_drewV (heap_alloc2 W _ _)))) (by simp [Value.oneCell']) (by omega) (by simp [maxLen]) (by omega) (by have := hb3.size; simp at this ⊢; omega) _ rfl ?_; intro gg cap w4 hown4 hgrow4 hat hlt)))
  all_goals
    have HO3 := Lib.hid ho3
    have HB3 := Lib.hid hb3
    have HO4 := Lib.hid hown4
    have HG4 := Lib.hid hgrow4
    clear ho3 hb3 hown4 hgrow4 hat hlt
    go_wp2_with fail
    go_ret2
    have hs := HB2.out.size
    have ht := HB3.out.size
    simp at ht
    first
    | exact ⟨_, _, rfl, RI.of_own (l := [2, 1, a]) HO4.out, RI.nil _, ((HB2.out.drew.trans (HB3.out.mono hs)).alloc (by omega) _).grown HG4.out (by simp; omega) (own_base (row_base HO3.out hs))⟩
    | exact ⟨_, _, rfl, RI.of_own (l := [2, 1, a]) HO4.out, RI.nil _, (((HB2.out.alloc hs _).drew).trans (HB3.out.mono (HB2.out.alloc hs _).size)).grown HG4.out (by omega) (own_base (row_base HO3.out (by simp; omega)))⟩
set_option maxRecDepth 100000 in
set_option maxHeartbeats 1600000 in
theorem moves_33 (a b s : Int) :
    Calls Tryd.prog 111 #[.agg #[.slice A0 p.pool.length c0, .slice A1 p.classes.length c1, .slice A2 p.methods.length c2], .agg #[.slice B0 m.f0.length d0, .int .i64 m.f1, .slice B2 m.f2.length d2, .int .i64 m.f3, .slice B4 m.f4.length d4], .agg #[.int .i64 33, .int .i64 a, .int .i64 b, .int .i64 s]] w (MvPost w (movesS p m 33 a b).1 (movesS p m 33 a b).2) := by
  show Calls _ _ _ _ (MvPost w [2, 1] [a])
  obtain ⟨i0, hi0, hz0, hz1, hz2⟩ := info_parts info3V
  have hB0 : Below w.heap.size w (((w.alloc (.cells #[.slice A0 p.pool.length c0, .slice A1 p.classes.length c1, .slice A2 p.methods.length c2] 59)).alloc (.cells #[.slice B0 m.f0.length d0, .int .i64 m.f1, .slice B2 m.f2.length d2, .int .i64 m.f3, .slice B4 m.f4.length d4] 64)).alloc (.cells #[.int .i64 33, .int .i64 a, .int .i64 b, .int .i64 s] 25)) := (((Below.refl _ w).alloc (Nat.le_refl _) _).alloc (by simp) _).alloc (by simp; omega) _
  have r3 := heap_alloc_new ((w.alloc (.cells #[.slice A0 p.pool.length c0, .slice A1 p.classes.length c1, .slice A2 p.methods.length c2] 59)).alloc (.cells #[.slice B0 m.f0.length d0, .int .i64 m.f1, .slice B2 m.f2.length d2, .int .i64 m.f3, .slice B4 m.f4.length d4] 64)) (.cells #[.int .i64 33, .int .i64 a, .int .i64 b, .int .i64 s] 25)
  have q0 := (cell_of_row _ _ 1 _ _ _ r3).trans rfl
  have e3 : ((w.alloc (.cells #[.slice A0 p.pool.length c0, .slice A1 p.classes.length c1, .slice A2 p.methods.length c2] 59)).alloc (.cells #[.slice B0 m.f0.length d0, .int .i64 m.f1, .slice B2 m.f2.length d2, .int .i64 m.f3, .slice B4 m.f4.length d4] 64)).heap.size = w.heap.size + 1 + 1 := by simp
  rw [e3] at q0
  clear r3 e3
  have HB2 := Lib.hid hB0
  clear hB0
  go_enter Tryd.func111, Tryd.ntmps111
  go_wp2_with fail
  have hzW : w.heap.size + 1 + 1 < (((w.alloc (.cells #[.slice A0 p.pool.length c0, .slice A1 p.classes.length c1, .slice A2 p.methods.length c2] 59)).alloc (.cells #[.slice B0 m.f0.length d0, .int .i64 m.f1, .slice B2 m.f2.length d2, .int .i64 m.f3, .slice B4 m.f4.length d4] 64)).alloc (.cells #[.int .i64 33, .int .i64 a, .int .i64 b, .int .i64 s] 25)).heap.size := by simp
  generalize (((w.alloc (.cells #[.slice A0 p.pool.length c0, .slice A1 p.classes.length c1, .slice A2 p.methods.length c2] 59)).alloc (.cells #[.slice B0 m.f0.length d0, .int .i64 m.f1, .slice B2 m.f2.length d2, .int .i64 m.f3, .slice B4 m.f4.length d4] 64)).alloc (.cells #[.int .i64 33, .int .i64 a, .int .i64 b, .int .i64 s] 25)) = W at q0 HB2 hzW ⊢
  go_region_held3 (fun w' => w'.cell? ⟨w.heap.size + 1 + 1, 1, none⟩ = some (.int .i64 a)) (first | go_keep | (exact cell_be hb3 (by simp [*])) | (exact cell_gr hgrow4 (by intro e; have := row_ge ho3 _ e.symm; simp at this; omega) (cell_al (cell_be hb3 q0) _)) | (exact cell_gr hgrow4 (by intro e; have := row_ge ho3 _ e.symm; simp at this; omega) (cell_be hb3 (cell_al q0 _))) | (exact cell_gr hgrow4 (by intro e; have := row_ge ho3 _ e.symm; simp at this; omega) (cell_al (cell_al (cell_be hb3 q0) _) _)) | (exact cell_gr hgrow4 (by intro e; have := row_ge ho3 _ e.symm; simp at this; omega) (cell_al (cell_be hb3 (cell_al q0 _)) _)) | (exact cell_gr hgrow4 (by intro e; have := row_ge ho3 _ e.symm; simp at this; omega) (cell_be hb3 (cell_al (cell_al q0 _) _))))
    ((first
      | (go_at_call 141; refine (refs1 _).mono ?_; rintro e w3 ⟨v3, rfl, ho3, hb3⟩)
      | (refine step_append_lies _ (by rfl) _ _ _ (by rfl) _ 3 i0 (.int .i64 0) 1 8 Tryd.underlying33 hi0 hz0 hz1 hz2 rfl (by omega) v3 1 (nums .i64 [2]) (by rfl) (ho3.alloc _) ⟨w3.heap.size, 0, none⟩ 1 1 [.int .i64 1] (by rfl) (by rfl) (World.news_of_block (cs := #[.int .i64 1]) (t := 3) (fr := (0, 0)) (heap_alloc_new w3 _)) (by simp [Value.oneCell']) (by omega) (by simp [maxLen]) (by omega) (by have := hb3.size; simp at this ⊢; omega) _ rfl ?_; intro gg cap w4 hown4 hgrow4 hat hlt)
      | (refine step_append_lies _ (by rfl) _ _ _ (by rfl) _ 3 i0 (.int .i64 0) 1 8 Tryd.underlying33 hi0 hz0 hz1 hz2 rfl (by omega) v3 1 (nums .i64 [2]) (by rfl) ho3 ⟨W.heap.size, 0, none⟩ 1 1 [.int .i64 1] (by rfl) (by rfl) (World.news_of_block (cs := #[.int .i64 1]) (t := 3) (fr := (0, 0)) (row_kept hb3 (row_drewV (heap_alloc_new W _)))) (by simp [Value.oneCell']) (by omega) (by simp [maxLen]) (by omega) (by have := hb3.size; simp at this ⊢; omega) _ rfl ?_; intro gg cap w4 hown4 hgrow4 hat hlt)
      | (refine step_append_lies _ (by rfl) _ _ _ (by rfl) _ 3 i0 (.int .i64 0) 1 8 Tryd.underlying33 hi0 hz0 hz1 hz2 rfl (by omega) v3 1 (nums .i64 [2]) (by rfl) ((ho3.alloc _).alloc _) ⟨w3.heap.size, 0, none⟩ 1 1 [.int .i64 1] (by rfl) (by rfl) (World.news_of_block (cs := #[.int .i64 1]) (t := 3) (fr := (0, 0)) (row_alloc (heap_alloc_new w3 _) _)) (by simp [Value.oneCell']) (by omega) (by simp [maxLen]) (by omega) (by have := hb3.size; simp at this ⊢; omega) _ rfl ?_; intro gg cap w4 hown4 hgrow4 hat hlt)
      | (refine step_append_lies _ (by rfl) _ _ _ (by rfl) _ 3 i0 (.int .i64 0) 1 8 Tryd.underlying33 hi0 hz0 hz1 hz2 rfl (by omega) v3 1 (nums .i64 [2]) (by rfl) ((ho3.alloc _).alloc _) ⟨w3.heap.size + 1, 0, none⟩ 1 1 [.int .i64 1] (by rfl) (by rfl) (World.news_of_block (cs := #[.int .i64 1]) (t := 3) (fr := (0, 0)) (heap_alloc2 w3 _ _)) (by simp [Value.oneCell']) (by omega) (by simp [maxLen]) (by omega) (by have := hb3.size; simp at this ⊢; omega) _ rfl ?_; intro gg cap w4 hown4 hgrow4 hat hlt)
      | (refine step_append_lies _ (by rfl) _ _ _ (by rfl) _ 3 i0 (.int .i64 0) 1 8 Tryd.underlying33 hi0 hz0 hz1 hz2 rfl (by omega) v3 1 (nums .i64 [2]) (by rfl) (ho3.alloc _) ⟨W.heap.size, 0, none⟩ 1 1 [.int .i64 1] (by rfl) (by rfl) (World.news_of_block (cs := #[.int .i64 1]) (t := 3) (fr := (0, 0)) (row_alloc (row_kept hb3 (row_drewV (heap_alloc_new W _))) _)) (by simp [Value.oneCell']) (by omega) (by simp [maxLen]) (by omega) (by have := hb3.size; simp at this ⊢; omega) _ rfl ?_; intro gg cap w4 hown4 hgrow4 hat hlt)
      | (refine step_append_lies _ (by rfl) _ _ _ (by rfl) _ 3 i0 (.int .i64 0) 1 8 Tryd.underlying33 hi0 hz0 hz1 hz2 rfl (by omega) v3 1 (nums .i64 [2]) (by rfl) ho3 ⟨W.heap.size, 0, none⟩ 1 1 [.int .i64 1] (by rfl) (by rfl) (World.news_of_block (cs := #[.int .i64 1]) (t := 3) (fr := (0, 0)) (row_kept hb3 (row_drewV (row_alloc (heap_alloc_new W _) _)))) (by simp [Value.oneCell']) (by omega) (by simp [maxLen]) (by omega) (by have := hb3.size; simp at this ⊢; omega) _ rfl ?_; intro gg cap w4 hown4 hgrow4 hat hlt)
      | (refine step_append_lies _ (by rfl) _ _ _ (by rfl) _ 3 i0 (.int .i64 0) 1 8 Tryd.underlying33 hi0 hz0 hz1 hz2 rfl (by omega) v3 1 (nums .i64 [2]) (by rfl) ho3 ⟨W.heap.size + 1, 0, none⟩ 1 1 [.int .i64 1] (by rfl) (by rfl) (World.news_of_block (cs := #[.int .i64 1]) (t := 3) (fr := (0, 0)) (row_kept hb3 (row_drewV (heap_alloc2 W _ _)))) (by simp [Value.oneCell']) (by omega) (by simp [maxLen]) (by omega) (by have := hb3.size; simp at this ⊢; omega) _ rfl ?_; intro gg cap w4 hown4 hgrow4 hat hlt)))
  all_goals
    have HO3 := Lib.hid ho3
    have HB3 := Lib.hid hb3
    have HO4 := Lib.hid hown4
    have HG4 := Lib.hid hgrow4
    clear ho3 hb3 hown4 hgrow4 hat hlt
    go_wp2_with fail
    go_ret2
    have hs := HB2.out.size
    have ht := HB3.out.size
    simp at ht
    first
    | (exact ⟨_, _, rfl, (RI.of_own (l := [2, 1]) HO4.out).below ((Below.refl _ _).alloc (Nat.le_refl _) _), RI.lit (l := [a]) (heap_alloc_new w4 _) (by simp [maxLen]), (((HB2.out.drew.trans (HB3.out.mono hs)).alloc (by first | omega | (simp; omega)) _).grown HG4.out (by first | omega | (simp; omega)) (own_base (row_base HO3.out (by first | omega | (simp; omega))))).alloc (((HB2.out.drew.trans (HB3.out.mono hs)).alloc (by first | omega | (simp; omega)) _).grown HG4.out (by first | omega | (simp; omega)) (own_base (row_base HO3.out (by first | omega | (simp; omega))))).size _⟩)
    | (exact ⟨_, _, rfl, RI.of_own (l := [2, 1]) HO4.out, RI.lit (l := [a]) (row_gr HG4.out (by intro e; have h1 := row_ge HO3.out _ e.symm; have h2 := own_lt HO3.out _ e.symm; (simp at h1 h2 <;> omega)) (heap_alloc2 w3 _ _)) (by simp [maxLen]), ((((HB2.out.drew.trans (HB3.out.mono hs)).alloc (by first | omega | (simp; omega)) _).alloc (by first | omega | (simp; omega)) _).grown HG4.out (by first | omega | (simp; omega)) (own_base (row_base HO3.out (by first | omega | (simp; omega)))))⟩)
    | (exact ⟨_, _, rfl, RI.of_own (l := [2, 1]) HO4.out, RI.lit (l := [a]) (row_gr HG4.out (by intro e; have h1 := row_ge HO3.out _ e.symm; have h2 := own_lt HO3.out _ e.symm; (simp at h1 h2 <;> omega)) (row_alloc (heap_alloc_new w3 _) _)) (by simp [maxLen]), ((((HB2.out.drew.trans (HB3.out.mono hs)).alloc (by first | omega | (simp; omega)) _).alloc (by first | omega | (simp; omega)) _).grown HG4.out (by first | omega | (simp; omega)) (own_base (row_base HO3.out (by first | omega | (simp; omega)))))⟩)
    | (exact ⟨_, _, rfl, (RI.of_own (l := [2, 1]) HO4.out).below ((Below.refl _ _).alloc (Nat.le_refl _) _), RI.lit (l := [a]) (heap_alloc_new w4 _) (by simp [maxLen]), ((((HB2.out.alloc hs _).drew).trans (HB3.out.mono (HB2.out.alloc hs _).size)).grown HG4.out (by first | omega | (simp; omega)) (own_base (row_base HO3.out (by first | omega | (simp; omega))))).alloc ((((HB2.out.alloc hs _).drew).trans (HB3.out.mono (HB2.out.alloc hs _).size)).grown HG4.out (by first | omega | (simp; omega)) (own_base (row_base HO3.out (by first | omega | (simp; omega))))).size _⟩)
    | (exact ⟨_, _, rfl, RI.of_own (l := [2, 1]) HO4.out, RI.lit (l := [a]) (row_gr HG4.out (by intro e; have h1 := row_ge HO3.out _ e.symm; have h2 := own_lt HO3.out _ e.symm; (simp at h1 h2 <;> omega)) (heap_alloc_new w3 _)) (by simp [maxLen]), (((((HB2.out.alloc hs _).drew).trans (HB3.out.mono (HB2.out.alloc hs _).size)).alloc (by first | omega | (simp; omega)) _).grown HG4.out (by first | omega | (simp; omega)) (own_base (row_base HO3.out (by first | omega | (simp; omega)))))⟩)
    | (exact ⟨_, _, rfl, RI.of_own (l := [2, 1]) HO4.out, RI.lit (l := [a]) (row_gr HG4.out (by intro e; have h1 := row_ge HO3.out _ e.symm; have h2 := own_lt HO3.out _ e.symm; (simp at h1 h2 <;> omega)) (row_kept HB3.out (row_drewV (heap_alloc2 W _ _)))) (by simp [maxLen]), (((((HB2.out.alloc hs _).alloc (by first | omega | (simp; omega)) _).drew).trans (HB3.out.mono ((HB2.out.alloc hs _).alloc (by first | omega | (simp; omega)) _).size)).grown HG4.out (by first | omega | (simp; omega)) (own_base (row_base HO3.out (by first | omega | (simp; omega)))))⟩)
    | (exact ⟨_, _, rfl, RI.of_own (l := [2, 1]) HO4.out, RI.lit (l := [a]) (row_gr HG4.out (by intro e; have h1 := row_ge HO3.out _ e.symm; have h2 := own_lt HO3.out _ e.symm; (simp at h1 h2 <;> omega)) (row_kept HB3.out (row_drewV (row_alloc (heap_alloc_new W _) _)))) (by simp [maxLen]), (((((HB2.out.alloc hs _).alloc (by first | omega | (simp; omega)) _).drew).trans (HB3.out.mono ((HB2.out.alloc hs _).alloc (by first | omega | (simp; omega)) _).size)).grown HG4.out (by first | omega | (simp; omega)) (own_base (row_base HO3.out (by first | omega | (simp; omega)))))⟩)
    | (exact ⟨_, _, rfl, RI.of_own (l := [2, 1]) HO4.out, RI.lit (l := [a]) (row_gr HG4.out (by intro e; have h1 := row_ge HO3.out _ e.symm; have h2 := own_lt HO3.out _ e.symm; (simp at h1 h2 <;> omega)) (row_alloc (row_kept HB3.out (row_drewV (heap_alloc_new W _))) _)) (by simp [maxLen]), (((((HB2.out.alloc hs _).drew).trans (HB3.out.mono (HB2.out.alloc hs _).size)).alloc (by first | omega | (simp; omega)) _).grown HG4.out (by first | omega | (simp; omega)) (own_base (row_base HO3.out (by first | omega | (simp; omega)))))⟩)
end
end Go.Proofs.YtkphijabhoppnaaDoor
