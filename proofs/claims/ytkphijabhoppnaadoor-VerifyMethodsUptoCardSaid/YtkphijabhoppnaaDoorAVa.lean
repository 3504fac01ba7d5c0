/- Rows of so many types (brazier/verify.nums, refs). -/
import Derived.Test.YtkphijabhoppnaaDoorAPVerifyMethodsx5
import Derived.Test.YtkphijabhoppnaaDoorABd
import Derived.Laws.MakeOwn
import Derived.Laws.IdiomCopy
import Derived.Laws.CopyOwn
import Derived.Deep.RegionLaw
namespace Go.Proofs.YtkphijabhoppnaaDoor
open Go.RowKit Go.Proofs.YtkphijabhoppnaaDoorW.PrintWords
set_option linter.unusedSimpArgs false
set_option linter.unusedVariables false
theorem mul_calls (a b r1 r2 : Int) (h : PVerifyMethods.bits_Mul.f a b = some (r1, r2)) (w : World) :
    Calls Tryd.prog 189 #[.int .u64 a, .int .u64 b] w fun e w' => e = .returned (.tuple #[.int .u64 r1, .int .u64 r2]) ∧ Below w.heap.size w w' :=
  (PVerifyMethods.bits_Mul.calls a b r1 r2 w h).mono fun _ _ ⟨h1, h2⟩ => ⟨h1, h2.below⟩
theorem mul11 : PVerifyMethods.bits_Mul.f 1 1 = some (0, 1) := by decide +kernel
theorem mul12 : PVerifyMethods.bits_Mul.f 1 2 = some (0, 2) := by decide +kernel
set_option maxRecDepth 100000 in
set_option maxHeartbeats 800000 in
theorem repeat1 (x : Int) (g : Nat) (w : World) (hg : w.heap[g]? = some (.cells #[.int .i64 x] 3 (0, 0))) :
    Calls Tryd.prog 166 #[.slice (some ⟨g, 0, none⟩) 1 1, .int .i64 1] w fun e w' => ∃ v', e = .returned v' ∧ w'.ownsRow w.heap.size 3 1 v' 1 (nums .i64 [x]) ∧ Below w.heap.size w w' := by
  have hM := Lib.hid (mul_calls 1 1 0 1 mul11)
  have hc := (cell_of_row _ _ 0 _ _ _ hg).trans rfl
  have hmk : ∀ w : World, (Instr.makeSlice 33 (.int .i64 1) (.int .i64 1)).run Tryd.prog w = .ok (.slice (some ⟨w.heap.size, 0, none⟩) 1 1) (w.alloc (.cells #[.int .i64 0] 3)) := fun _ => by kernel_rfl
  go_enter Tryd.func166, Tryd.ntmps166
  go_upto_region 7 with (first | (go_at_call 189; refine (hM.out _).mono ?_; rintro e w1 ⟨rfl, hb1⟩; have hg1 := row_kept hb1 hg; have hgl : g < w1.heap.size := (Array.getElem?_eq_some_iff.1 hg1).1; have HB1 := Lib.hid hb1; have HG1 := Lib.hid hg1; have HR1 := Lib.hid (heap_alloc_new w1 (.cells #[.int .i64 0] 3)); clear hb1 hg1) | fail)
  go_wp2_with (refine wpList_copy_own rfl (.tmp 31) (.tmp 32) 33 33 rfl 3 Tryd.underlying33 (by kernel_rfl) w1.heap.size 0 1 1 ⟨g, 0, none⟩ 1 1 rfl rfl #[.int .i64 0] 3 HR1.out [.int .i64 x] rfl (fun j v hj => by cases j with | zero => (cases hj; exact (cell_of_row _ _ 0 _ _ _ (row_alloc HG1.out _)).trans rfl) | succ j => simp at hj) (by simp) (by simp [Value.oneCell']) ?_)
  refine wp_loop_rounds 1 ?_
  rw [rounds_succ]
  go_wp2_with fail
  go_ret
  refine ⟨_, rfl, ⟨rfl, .inr ⟨w1.heap.size, 1, #[.int .i64 x], rfl, HB1.out.size, setRow_heap _ _ _ _ _ _ HR1.out, by omega, by decide, rfl, rfl⟩⟩, below_setRow (HB1.out.alloc HB1.out.size _) HB1.out.size _⟩
set_option maxRecDepth 100000 in
set_option maxHeartbeats 800000 in
theorem repeat2 (x : Int) (g : Nat) (w : World) (hg : w.heap[g]? = some (.cells #[.int .i64 x] 3 (0, 0))) :
    Calls Tryd.prog 166 #[.slice (some ⟨g, 0, none⟩) 1 1, .int .i64 2] w fun e w' => ∃ v', e = .returned v' ∧ w'.ownsRow w.heap.size 3 1 v' 2 (nums .i64 [x, x]) ∧ Below w.heap.size w w' := by
  have hM := Lib.hid (mul_calls 1 2 0 2 mul12)
  have hc := (cell_of_row _ _ 0 _ _ _ hg).trans rfl
  have hmk : ∀ w : World, (Instr.makeSlice 33 (.int .i64 2) (.int .i64 2)).run Tryd.prog w = .ok (.slice (some ⟨w.heap.size, 0, none⟩) 2 2) (w.alloc (.cells #[.int .i64 0, .int .i64 0] 3)) := fun _ => by kernel_rfl
  go_enter Tryd.func166, Tryd.ntmps166
  go_upto_region 7 with (first | (go_at_call 189; refine (hM.out _).mono ?_; rintro e w1 ⟨rfl, hb1⟩; have hg1 := row_kept hb1 hg; have hgl : g < w1.heap.size := (Array.getElem?_eq_some_iff.1 hg1).1; have HB1 := Lib.hid hb1; have HG1 := Lib.hid hg1; have HR1 := Lib.hid (heap_alloc_new w1 (.cells #[.int .i64 0, .int .i64 0] 3)); clear hb1 hg1) | fail)
  go_wp2_with (refine wpList_copy_own rfl (.tmp 31) (.tmp 32) 33 33 rfl 3 Tryd.underlying33 (by kernel_rfl) w1.heap.size 0 2 2 ⟨g, 0, none⟩ 1 1 rfl rfl #[.int .i64 0, .int .i64 0] 3 HR1.out [.int .i64 x] rfl (fun j v hj => by cases j with | zero => (cases hj; exact (cell_of_row _ _ 0 _ _ _ (row_alloc HG1.out _)).trans rfl) | succ j => simp at hj) (by simp) (by simp [Value.oneCell']) ?_)
  refine wp_loop_rounds 2 ?_
  rw [rounds_succ]
  go_wp2_with fail
  have hgW : ((w1.alloc (.cells #[.int .i64 0, .int .i64 0] 3)).setRow w1.heap.size #[.int .i64 x, .int .i64 0]).heap[w1.heap.size]? = some (.cells [Value.int .i64 x, .int .i64 0].toArray 3 (0, 0)) := setRow_heap _ _ _ _ _ _ HR1.out
  have hbW : Below w.heap.size w ((w1.alloc (.cells #[.int .i64 0, .int .i64 0] 3)).setRow w1.heap.size #[.int .i64 x, .int .i64 0]) := below_setRow (HB1.out.alloc HB1.out.size _) HB1.out.size _
  have hsz := HB1.out.size
  generalize (w1.alloc (.cells #[.int .i64 0, .int .i64 0] 3)).setRow w1.heap.size #[.int .i64 x, .int .i64 0] = W2 at hgW hbW ⊢
  have c0 := (cell_of_row _ _ 0 _ _ _ hgW).trans rfl
  have HGW := Lib.hid hgW
  have HBW := Lib.hid hbW
  clear hgW hbW
  go_region_law (refine step_copy_splice rfl (.tmp 41) (.tmp 44) 33 33 rfl 3 Tryd.underlying33 (by kernel_rfl) (some ⟨w1.heap.size, 1, none⟩) (some ⟨w1.heap.size, 0, none⟩) 1 1 1 2 (by simp [Act.eval, Act.put]) (by simp [Act.eval, Act.put]) w1.heap.size 1 [.int .i64 x, .int .i64 0] 3 HGW.out [.int .i64 x] rfl (fun _ => ⟨rfl, _, rfl, fun j v hj => by cases j with | zero => (cases hj; exact c0) | succ j => simp at hj⟩) (by simp) (by simp [Value.oneCell']) w.heap.size w HBW.out.drew hsz ?_; intro w4 hg4 hb4)
  all_goals
    go_wp2_with fail
    rw [rounds_succ]
    go_wp2_with fail
    go_ret
    exact ⟨_, rfl, ⟨rfl, .inr ⟨w1.heap.size, 2, _, rfl, hsz, hg4.out, by omega, by decide, rfl, rfl⟩⟩, hb4⟩
theorem nums_calls (n : Nat) (hn : n = 1 ∨ n = 2) (w : World) :
    Calls Tryd.prog 140 #[.int .i64 n] w fun e w' => ∃ v', e = .returned v' ∧ w'.ownsRow w.heap.size 3 1 v' n (nums .i64 (List.replicate n 1)) ∧ Below w.heap.size w w' := by
  rcases hn with rfl | rfl
  · show Calls Tryd.prog 140 #[.int .i64 1] w _
    go_enter Tryd.func140, Tryd.ntmps140
    go_wp2_with (first | (go_at_call 166; refine (repeat1 1 w.heap.size _ (heap_alloc_new w _)).mono ?_; rintro e w1 ⟨v', rfl, ho, hb⟩; have HO := Lib.hid ho; have HB := Lib.hid hb; clear ho hb) | fail)
    go_ret
    exact ⟨_, rfl, row_base HO.out (by simp), ((Below.refl _ _).alloc (Nat.le_refl _) _).trans (HB.out.mono (by simp))⟩
  · show Calls Tryd.prog 140 #[.int .i64 2] w _
    go_enter Tryd.func140, Tryd.ntmps140
    go_wp2_with (first | (go_at_call 166; refine (repeat2 1 w.heap.size _ (heap_alloc_new w _)).mono ?_; rintro e w1 ⟨v', rfl, ho, hb⟩; have HO := Lib.hid ho; have HB := Lib.hid hb; clear ho hb) | fail)
    go_ret
    exact ⟨_, rfl, row_base HO.out (by simp), ((Below.refl _ _).alloc (Nat.le_refl _) _).trans (HB.out.mono (by simp))⟩
theorem refs_calls (n : Nat) (hn : n = 1 ∨ n = 2) (w : World) :
    Calls Tryd.prog 141 #[.int .i64 n] w fun e w' => ∃ v', e = .returned v' ∧ w'.ownsRow w.heap.size 3 1 v' n (nums .i64 (List.replicate n 2)) ∧ Below w.heap.size w w' := by
  rcases hn with rfl | rfl
  · show Calls Tryd.prog 141 #[.int .i64 1] w _
    go_enter Tryd.func141, Tryd.ntmps141
    go_wp2_with (first | (go_at_call 166; refine (repeat1 2 w.heap.size _ (heap_alloc_new w _)).mono ?_; rintro e w1 ⟨v', rfl, ho, hb⟩; have HO := Lib.hid ho; have HB := Lib.hid hb; clear ho hb) | fail)
    go_ret
    exact ⟨_, rfl, row_base HO.out (by simp), ((Below.refl _ _).alloc (Nat.le_refl _) _).trans (HB.out.mono (by simp))⟩
  · show Calls Tryd.prog 141 #[.int .i64 2] w _
    go_enter Tryd.func141, Tryd.ntmps141
    go_wp2_with (first | (go_at_call 166; refine (repeat2 2 w.heap.size _ (heap_alloc_new w _)).mono ?_; rintro e w1 ⟨v', rfl, ho, hb⟩; have HO := Lib.hid ho; have HB := Lib.hid hb; clear ho hb) | fail)
    go_ret
    exact ⟨_, rfl, row_base HO.out (by simp), ((Below.refl _ _).alloc (Nat.le_refl _) _).trans (HB.out.mono (by simp))⟩
end Go.Proofs.YtkphijabhoppnaaDoor
