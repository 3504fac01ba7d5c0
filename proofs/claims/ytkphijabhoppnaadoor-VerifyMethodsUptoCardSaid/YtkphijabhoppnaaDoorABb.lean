/- A bytecode read (brazier/code.Read). -/
import Derived.Test.YtkphijabhoppnaaDoorABa
namespace Go.Proofs.YtkphijabhoppnaaDoor
open Go.RowKit
set_option linter.unusedSimpArgs false
set_option linter.unusedVariables false
theorem cell_al {w : World} {a : Addr} {v : Value} (h : w.cell? a = some v) (o : Obj) : (w.alloc o).cell? a = some v :=
  (World.cell?_of_block (w := w) (Below.heap_alloc w o a.block (block_lt_of_cell h))).trans h
theorem cell_be {w w1 : World} {a : Addr} {v : Value} (hb : Below w.heap.size w w1) (h : w.cell? a = some v) : w1.cell? a = some v :=
  (hb.cell (block_lt_of_cell h)).trans h
theorem below_drewN0 {B : Nat} {a w : World} (h : Below B a w) (n : Nat) : Below B a (w.drewN n) := ⟨h.os, h.tape, h.output, h.size, h.block⟩
set_option maxHeartbeats 800000 in
set_option maxRecDepth 20000 in
theorem read_k1 (b off n c i x : Nat) (y : Int) (w : World) (hG : Glob w) (hnc : n ≤ c) (hcm : c ≤ 9223372036854775807) (hx : x ≤ 40) (hk : opk x = 1) (hi : i + 1 < n) (by0 : 0 ≤ y) (by1 : y ≤ 255)
    (hc : w.cell? ⟨b, off + i, none⟩ = some (.int .u8 x)) (hc1 : w.cell? ⟨b, off + (i + 1), none⟩ = some (.int .u8 y)) :
    Calls Tryd.prog 13 #[.slice (some ⟨b, off, none⟩) n c, .int .i64 i] w fun e w' => e = .returned (Rd.val ⟨x, y, 0, 2, 0⟩) ∧ Below w.heap.size w w' := by
  have hbl : b < w.heap.size := block_lt_of_cell hc
  have t1 : ((i : Int) == n) = false := by simp; omega
  have HK := Lib.hid hk
  have HG := Lib.hid hG
  have hne := nm_ne' x (by omega)
  have t2 : decide ((i : Int) < 0) = false := by simp
  have t3 : decide (n < i) = false := by simp; omega
  clear hk hG
  go_enter Tryd.func13, Tryd.ntmps13
  go_wp2_with (first | (go_at_call 44; refine (parts_k x 1 hx HK.out _ (HG.out.below ((Below.refl _ _).alloc (Nat.le_refl _) _))).mono ?_; rintro e w1 ⟨hb1, b2, off2, cap2, hb2, rfl, hcs⟩; obtain ⟨hcw, hfw⟩ := bcell hb1; have hz1 : w.heap.size + 1 ≤ w1.heap.size := (by have := hb1.size; simp at this; omega); have hrow := row_kept hb1 (heap_alloc_new w _); have HB1 := Lib.hid hb1; clear hb1; simp only [ksK, List.length_nil, List.length_cons, Nat.zero_add, Nat.reduceAdd]; have hk0 : w1.cell? ⟨b2, off2, none⟩ = some (.string ⟨#[117]⟩) := hcs 0 _ rfl; have hb2l0 : b2 < w1.heap.size := block_lt_of_cell hk0; clear hcs) | fail)
  refine wp_loop_rounds 2 ?_
  rw [rounds_succ]
  have HY0_0 := Lib.hid (cell_al (cell_al (cell_be HB1.out (cell_al hc1 _)) (.cells #[.int .i64 x, .int .i64 0, .int .i64 0, .int .i64 1] 25)) (.cells #[.int .i64 0, .int .i64 0] 103))
  go_wp2_with (first | (go_at_call 45; refine (operand_u b (off + (i + 1)) (n - (i + 1)) (c - (i + 1)) y _ (by omega) by0 by1 HY0_0.out).mono ?_; rintro e w2 ⟨rfl, rfl⟩) | fail)
  rw [rounds_succ]
  go_wp2_with fail
  go_region
  go_wp2_with (refine wpList_store_row rfl 25 _ _ rfl w.heap.size #[.int .i64 x, .int .i64 y, .int .i64 0, .int .i64 2] rfl rfl 25 _ (row_alloc (row_alloc hrow _) _) (by kernel_rfl) (by rfl) (all4 _ _ _ _) ?_)
  refine bodyPost_ret (v := Rd.val ⟨x, y, 0, 2, 0⟩) (results13 ⟨x, y, 0, 2, 0⟩ rfl rfl (setRow_heap _ _ _ _ _ _ (row_alloc (row_alloc hrow _) _))) rfl ⟨rfl, ?_⟩
  have hb3 : Below w.heap.size w w1 := ((Below.refl _ _).alloc (Nat.le_refl _) _).trans (HB1.out.mono (by simp))
  exact below_setRow (((hb3.alloc hb3.size _).alloc (by simp; omega) _).drew) (Nat.le_refl _) _
set_option maxHeartbeats 800000 in
set_option maxRecDepth 20000 in
theorem read_k2 (b off n c i x : Nat) (y : Int) (w : World) (hG : Glob w) (hnc : n ≤ c) (hcm : c ≤ 9223372036854775807) (hx : x ≤ 40) (hk : opk x = 2) (hi : i + 1 < n) (by0 : 0 ≤ y) (by1 : y ≤ 255)
    (hc : w.cell? ⟨b, off + i, none⟩ = some (.int .u8 x)) (hc1 : w.cell? ⟨b, off + (i + 1), none⟩ = some (.int .u8 y)) :
    Calls Tryd.prog 13 #[.slice (some ⟨b, off, none⟩) n c, .int .i64 i] w fun e w' => e = .returned (Rd.val ⟨x, s8 y, 0, 2, 0⟩) ∧ Below w.heap.size w w' := by
  have hbl : b < w.heap.size := block_lt_of_cell hc
  have t1 : ((i : Int) == n) = false := by simp; omega
  have HK := Lib.hid hk
  have HG := Lib.hid hG
  have hne := nm_ne' x (by omega)
  have t2 : decide ((i : Int) < 0) = false := by simp
  have t3 : decide (n < i) = false := by simp; omega
  clear hk hG
  go_enter Tryd.func13, Tryd.ntmps13
  go_wp2_with (first | (go_at_call 44; refine (parts_k x 2 hx HK.out _ (HG.out.below ((Below.refl _ _).alloc (Nat.le_refl _) _))).mono ?_; rintro e w1 ⟨hb1, b2, off2, cap2, hb2, rfl, hcs⟩; obtain ⟨hcw, hfw⟩ := bcell hb1; have hz1 : w.heap.size + 1 ≤ w1.heap.size := (by have := hb1.size; simp at this; omega); have hrow := row_kept hb1 (heap_alloc_new w _); have HB1 := Lib.hid hb1; clear hb1; simp only [ksK, List.length_nil, List.length_cons, Nat.zero_add, Nat.reduceAdd]; have hk0 : w1.cell? ⟨b2, off2, none⟩ = some (.string ⟨#[115]⟩) := hcs 0 _ rfl; have hb2l0 : b2 < w1.heap.size := block_lt_of_cell hk0; clear hcs) | fail)
  refine wp_loop_rounds 2 ?_
  rw [rounds_succ]
  have HY0_0 := Lib.hid (cell_al (cell_al (cell_be HB1.out (cell_al hc1 _)) (.cells #[.int .i64 x, .int .i64 0, .int .i64 0, .int .i64 1] 25)) (.cells #[.int .i64 0, .int .i64 0] 103))
  go_wp2_with (first | (go_at_call 45; refine (operand_s b (off + (i + 1)) (n - (i + 1)) (c - (i + 1)) y _ (by omega) by0 by1 HY0_0.out).mono ?_; rintro e w2 ⟨rfl, rfl⟩) | fail)
  rw [rounds_succ]
  go_wp2_with fail
  go_region
  go_wp2_with (refine wpList_store_row rfl 25 _ _ rfl w.heap.size #[.int .i64 x, .int .i64 (s8 y), .int .i64 0, .int .i64 2] rfl rfl 25 _ (row_alloc (row_alloc hrow _) _) (by kernel_rfl) (by rfl) (all4 _ _ _ _) ?_)
  refine bodyPost_ret (v := Rd.val ⟨x, s8 y, 0, 2, 0⟩) (results13 ⟨x, s8 y, 0, 2, 0⟩ rfl rfl (setRow_heap _ _ _ _ _ _ (row_alloc (row_alloc hrow _) _))) rfl ⟨rfl, ?_⟩
  have hb3 : Below w.heap.size w w1 := ((Below.refl _ _).alloc (Nat.le_refl _) _).trans (HB1.out.mono (by simp))
  exact below_setRow (((hb3.alloc hb3.size _).alloc (by simp; omega) _).drew) (Nat.le_refl _) _
set_option maxHeartbeats 800000 in
set_option maxRecDepth 20000 in
theorem read_k3 (b off n c i x : Nat) (y z : Int) (w : World) (hG : Glob w) (hnc : n ≤ c) (hcm : c ≤ 9223372036854775807) (hx : x ≤ 40) (hk : opk x = 3) (hi : i + 2 < n) (by0 : 0 ≤ y) (by1 : y ≤ 255) (bz0 : 0 ≤ z) (bz1 : z ≤ 255)
    (hc : w.cell? ⟨b, off + i, none⟩ = some (.int .u8 x)) (hc1 : w.cell? ⟨b, off + (i + 1), none⟩ = some (.int .u8 y)) (hc2 : w.cell? ⟨b, off + (i + 1) + 1, none⟩ = some (.int .u8 z)) :
    Calls Tryd.prog 13 #[.slice (some ⟨b, off, none⟩) n c, .int .i64 i] w fun e w' => e = .returned (Rd.val ⟨x, s16 y z, 0, 3, 0⟩) ∧ Below w.heap.size w w' := by
  have hbl : b < w.heap.size := block_lt_of_cell hc
  have t1 : ((i : Int) == n) = false := by simp; omega
  have HK := Lib.hid hk
  have HG := Lib.hid hG
  have hne := nm_ne' x (by omega)
  have t2 : decide ((i : Int) < 0) = false := by simp
  have t3 : decide (n < i) = false := by simp; omega
  clear hk hG
  go_enter Tryd.func13, Tryd.ntmps13
  go_wp2_with (first | (go_at_call 44; refine (parts_k x 3 hx HK.out _ (HG.out.below ((Below.refl _ _).alloc (Nat.le_refl _) _))).mono ?_; rintro e w1 ⟨hb1, b2, off2, cap2, hb2, rfl, hcs⟩; obtain ⟨hcw, hfw⟩ := bcell hb1; have hz1 : w.heap.size + 1 ≤ w1.heap.size := (by have := hb1.size; simp at this; omega); have hrow := row_kept hb1 (heap_alloc_new w _); have HB1 := Lib.hid hb1; clear hb1; simp only [ksK, List.length_nil, List.length_cons, Nat.zero_add, Nat.reduceAdd]; have hk0 : w1.cell? ⟨b2, off2, none⟩ = some (.string ⟨#[111]⟩) := hcs 0 _ rfl; have hb2l0 : b2 < w1.heap.size := block_lt_of_cell hk0; clear hcs) | fail)
  refine wp_loop_rounds 2 ?_
  rw [rounds_succ]
  have HY0_0 := Lib.hid (cell_al (cell_al (cell_be HB1.out (cell_al hc1 _)) (.cells #[.int .i64 x, .int .i64 0, .int .i64 0, .int .i64 1] 25)) (.cells #[.int .i64 0, .int .i64 0] 103))
  have HY0_1 := Lib.hid (cell_al (cell_al (cell_be HB1.out (cell_al hc2 _)) (.cells #[.int .i64 x, .int .i64 0, .int .i64 0, .int .i64 1] 25)) (.cells #[.int .i64 0, .int .i64 0] 103))
  go_wp2_with (first | (go_at_call 45; refine (operand_o b (off + (i + 1)) (n - (i + 1)) (c - (i + 1)) y z _ (by omega) by0 by1 bz0 bz1 HY0_0.out HY0_1.out).mono ?_; rintro e w2 ⟨rfl, rfl⟩) | fail)
  rw [rounds_succ]
  go_wp2_with fail
  go_region
  go_wp2_with (refine wpList_store_row rfl 25 _ _ rfl w.heap.size #[.int .i64 x, .int .i64 (s16 y z), .int .i64 0, .int .i64 3] rfl rfl 25 _ (row_alloc (row_alloc hrow _) _) (by kernel_rfl) (by rfl) (all4 _ _ _ _) ?_)
  refine bodyPost_ret (v := Rd.val ⟨x, s16 y z, 0, 3, 0⟩) (results13 ⟨x, s16 y z, 0, 3, 0⟩ rfl rfl (setRow_heap _ _ _ _ _ _ (row_alloc (row_alloc hrow _) _))) rfl ⟨rfl, ?_⟩
  have hb3 : Below w.heap.size w w1 := ((Below.refl _ _).alloc (Nat.le_refl _) _).trans (HB1.out.mono (by simp))
  exact below_setRow ((((hb3.alloc hb3.size _).alloc (by simp; omega) _).drew).drew) (Nat.le_refl _) _
set_option maxHeartbeats 800000 in
set_option maxRecDepth 20000 in
theorem read_k4 (b off n c i x : Nat) (y z : Int) (w : World) (hG : Glob w) (hnc : n ≤ c) (hcm : c ≤ 9223372036854775807) (hx : x ≤ 40) (hk : opk x = 4) (hi : i + 2 < n) (by0 : 0 ≤ y) (by1 : y ≤ 255) (bz0 : 0 ≤ z) (bz1 : z ≤ 255)
    (hc : w.cell? ⟨b, off + i, none⟩ = some (.int .u8 x)) (hc1 : w.cell? ⟨b, off + (i + 1), none⟩ = some (.int .u8 y)) (hc2 : w.cell? ⟨b, off + (i + 2), none⟩ = some (.int .u8 z)) :
    Calls Tryd.prog 13 #[.slice (some ⟨b, off, none⟩) n c, .int .i64 i] w fun e w' => e = .returned (Rd.val ⟨x, y, z, 3, 0⟩) ∧ Below w.heap.size w w' := by
  have hbl : b < w.heap.size := block_lt_of_cell hc
  have t1 : ((i : Int) == n) = false := by simp; omega
  have HK := Lib.hid hk
  have HG := Lib.hid hG
  have hne := nm_ne' x (by omega)
  have t2 : decide ((i : Int) < 0) = false := by simp
  have t3 : decide (n < i) = false := by simp; omega
  clear hk hG
  go_enter Tryd.func13, Tryd.ntmps13
  go_wp2_with (first | (go_at_call 44; refine (parts_k x 4 hx HK.out _ (HG.out.below ((Below.refl _ _).alloc (Nat.le_refl _) _))).mono ?_; rintro e w1 ⟨hb1, b2, off2, cap2, hb2, rfl, hcs⟩; obtain ⟨hcw, hfw⟩ := bcell hb1; have hz1 : w.heap.size + 1 ≤ w1.heap.size := (by have := hb1.size; simp at this; omega); have hrow := row_kept hb1 (heap_alloc_new w _); have HB1 := Lib.hid hb1; clear hb1; simp only [ksK, List.length_nil, List.length_cons, Nat.zero_add, Nat.reduceAdd]; have hk0 : w1.cell? ⟨b2, off2, none⟩ = some (.string ⟨#[117]⟩) := hcs 0 _ rfl; have hb2l0 : b2 < w1.heap.size := block_lt_of_cell hk0; have hk1 : w1.cell? ⟨b2, off2 + 1, none⟩ = some (.string ⟨#[117]⟩) := hcs 1 _ rfl; have hb2l1 : b2 < w1.heap.size := block_lt_of_cell hk1; clear hcs) | fail)
  refine wp_loop_rounds 3 ?_
  rw [rounds_succ]
  have HY0_0 := Lib.hid (cell_al (cell_al (cell_be HB1.out (cell_al hc1 _)) (.cells #[.int .i64 x, .int .i64 0, .int .i64 0, .int .i64 1] 25)) (.cells #[.int .i64 0, .int .i64 0] 103))
  go_wp2_with (first | (go_at_call 45; refine (operand_u b (off + (i + 1)) (n - (i + 1)) (c - (i + 1)) y _ (by omega) by0 by1 HY0_0.out).mono ?_; rintro e w2 ⟨rfl, rfl⟩) | fail)
  rw [rounds_succ]
  have HY1_0 := Lib.hid (cell_al (cell_al (cell_be HB1.out (cell_al hc2 _)) (.cells #[.int .i64 x, .int .i64 0, .int .i64 0, .int .i64 2] 25)) (.cells #[.int .i64 y, .int .i64 0] 103))
  go_wp2_with (first | (go_at_call 45; refine (operand_u b (off + (i + 2)) (n - (i + 2)) (c - (i + 2)) z _ (by omega) bz0 bz1 HY1_0.out).mono ?_; rintro e w2 ⟨rfl, rfl⟩) | fail)
  rw [rounds_succ]
  go_wp2_with fail
  go_region
  go_wp2_with (refine wpList_store_row rfl 25 _ _ rfl w.heap.size #[.int .i64 x, .int .i64 y, .int .i64 z, .int .i64 3] rfl rfl 25 _ (row_alloc (row_alloc hrow _) _) (by kernel_rfl) (by rfl) (all4 _ _ _ _) ?_)
  refine bodyPost_ret (v := Rd.val ⟨x, y, z, 3, 0⟩) (results13 ⟨x, y, z, 3, 0⟩ rfl rfl (setRow_heap _ _ _ _ _ _ (row_alloc (row_alloc hrow _) _))) rfl ⟨rfl, ?_⟩
  have hb3 : Below w.heap.size w w1 := ((Below.refl _ _).alloc (Nat.le_refl _) _).trans (HB1.out.mono (by simp))
  exact below_setRow (((hb3.alloc hb3.size _).alloc (by simp; omega) _).drew) (Nat.le_refl _) _
set_option maxHeartbeats 800000 in
set_option maxRecDepth 20000 in
theorem read_k1s (b off n c i x : Nat) (w : World) (hG : Glob w) (hnc : n ≤ c) (hcm : c ≤ 9223372036854775807) (hx : x ≤ 40) (hk : opk x = 1) (hi : n = i + 1)
    (hc : w.cell? ⟨b, off + i, none⟩ = some (.int .u8 x)) :
    Calls Tryd.prog 13 #[.slice (some ⟨b, off, none⟩) n c, .int .i64 i] w fun e w' => e = .returned (Rd.val ⟨0, 0, 0, 0, 6⟩) ∧ Below w.heap.size w w' := by
  have hbl : b < w.heap.size := block_lt_of_cell hc
  have t1 : ((i : Int) == n) = false := by simp; omega
  have HK := Lib.hid hk
  have HG := Lib.hid hG
  have hne := nm_ne' x (by omega)
  have t2 : decide ((i : Int) < 0) = false := by simp
  have t3 : decide (n < i) = false := by simp; omega
  clear hk hG
  by_cases hcap : c = i + 1
  all_goals
    go_enter Tryd.func13, Tryd.ntmps13
    go_wp2_with (first | (go_at_call 44; refine (parts_k x 1 hx HK.out _ (HG.out.below ((Below.refl _ _).alloc (Nat.le_refl _) _))).mono ?_; rintro e w1 ⟨hb1, b2, off2, cap2, hb2, rfl, hcs⟩; obtain ⟨hcw, hfw⟩ := bcell hb1; have hz1 : w.heap.size + 1 ≤ w1.heap.size := (by have := hb1.size; simp at this; omega); have hrow := row_kept hb1 (heap_alloc_new w _); have HB1 := Lib.hid hb1; clear hb1; simp only [ksK, List.length_nil, List.length_cons, Nat.zero_add, Nat.reduceAdd]; have hk0 : w1.cell? ⟨b2, off2, none⟩ = some (.string ⟨#[117]⟩) := hcs 0 _ rfl; have hb2l0 : b2 < w1.heap.size := block_lt_of_cell hk0; clear hcs) | fail)
    refine wp_loop_rounds 2 ?_
    rw [rounds_succ]
    go_wp2_with (first | (go_at_call 45; refine (operand_short 1 _ _ _ _ (by first | (simp [szK]; done) | (simp [szK]; omega)) (by simp)).mono ?_; rintro e w2 ⟨rfl, rfl⟩) | (refine wpList_store_row rfl 25 _ _ rfl w.heap.size #[.int .i64 0, .int .i64 0, .int .i64 0, .int .i64 0] rfl rfl 25 _ (row_alloc (row_alloc hrow _) _) (by kernel_rfl) (by rfl) (all4 _ _ _ _) ?_))
    refine bodyPost_ret (v := Rd.val ⟨0, 0, 0, 0, 6⟩) (results13 ⟨0, 0, 0, 0, 6⟩ rfl rfl (setRow_heap _ _ _ _ _ _ (row_alloc (row_alloc hrow _) _))) rfl ⟨rfl, ?_⟩
    have hb3 : Below w.heap.size w w1 := ((Below.refl _ _).alloc (Nat.le_refl _) _).trans (HB1.out.mono (by simp))
    exact below_setRow ((hb3.alloc hb3.size _).alloc (by simp; omega) _) (Nat.le_refl _) _
set_option maxHeartbeats 800000 in
set_option maxRecDepth 20000 in
theorem read_k2s (b off n c i x : Nat) (w : World) (hG : Glob w) (hnc : n ≤ c) (hcm : c ≤ 9223372036854775807) (hx : x ≤ 40) (hk : opk x = 2) (hi : n = i + 1)
    (hc : w.cell? ⟨b, off + i, none⟩ = some (.int .u8 x)) :
    Calls Tryd.prog 13 #[.slice (some ⟨b, off, none⟩) n c, .int .i64 i] w fun e w' => e = .returned (Rd.val ⟨0, 0, 0, 0, 6⟩) ∧ Below w.heap.size w w' := by
  have hbl : b < w.heap.size := block_lt_of_cell hc
  have t1 : ((i : Int) == n) = false := by simp; omega
  have HK := Lib.hid hk
  have HG := Lib.hid hG
  have hne := nm_ne' x (by omega)
  have t2 : decide ((i : Int) < 0) = false := by simp
  have t3 : decide (n < i) = false := by simp; omega
  clear hk hG
  by_cases hcap : c = i + 1
  all_goals
    go_enter Tryd.func13, Tryd.ntmps13
    go_wp2_with (first | (go_at_call 44; refine (parts_k x 2 hx HK.out _ (HG.out.below ((Below.refl _ _).alloc (Nat.le_refl _) _))).mono ?_; rintro e w1 ⟨hb1, b2, off2, cap2, hb2, rfl, hcs⟩; obtain ⟨hcw, hfw⟩ := bcell hb1; have hz1 : w.heap.size + 1 ≤ w1.heap.size := (by have := hb1.size; simp at this; omega); have hrow := row_kept hb1 (heap_alloc_new w _); have HB1 := Lib.hid hb1; clear hb1; simp only [ksK, List.length_nil, List.length_cons, Nat.zero_add, Nat.reduceAdd]; have hk0 : w1.cell? ⟨b2, off2, none⟩ = some (.string ⟨#[115]⟩) := hcs 0 _ rfl; have hb2l0 : b2 < w1.heap.size := block_lt_of_cell hk0; clear hcs) | fail)
    refine wp_loop_rounds 2 ?_
    rw [rounds_succ]
    go_wp2_with (first | (go_at_call 45; refine (operand_short 2 _ _ _ _ (by first | (simp [szK]; done) | (simp [szK]; omega)) (by simp)).mono ?_; rintro e w2 ⟨rfl, rfl⟩) | (refine wpList_store_row rfl 25 _ _ rfl w.heap.size #[.int .i64 0, .int .i64 0, .int .i64 0, .int .i64 0] rfl rfl 25 _ (row_alloc (row_alloc hrow _) _) (by kernel_rfl) (by rfl) (all4 _ _ _ _) ?_))
    refine bodyPost_ret (v := Rd.val ⟨0, 0, 0, 0, 6⟩) (results13 ⟨0, 0, 0, 0, 6⟩ rfl rfl (setRow_heap _ _ _ _ _ _ (row_alloc (row_alloc hrow _) _))) rfl ⟨rfl, ?_⟩
    have hb3 : Below w.heap.size w w1 := ((Below.refl _ _).alloc (Nat.le_refl _) _).trans (HB1.out.mono (by simp))
    exact below_setRow ((hb3.alloc hb3.size _).alloc (by simp; omega) _) (Nat.le_refl _) _
set_option maxHeartbeats 800000 in
set_option maxRecDepth 20000 in
theorem read_k3s (b off n c i x : Nat) (w : World) (hG : Glob w) (hnc : n ≤ c) (hcm : c ≤ 9223372036854775807) (hx : x ≤ 40) (hk : opk x = 3) (hi : i < n) (hi2 : n ≤ i + 2)
    (hc : w.cell? ⟨b, off + i, none⟩ = some (.int .u8 x)) :
    Calls Tryd.prog 13 #[.slice (some ⟨b, off, none⟩) n c, .int .i64 i] w fun e w' => e = .returned (Rd.val ⟨0, 0, 0, 0, 6⟩) ∧ Below w.heap.size w w' := by
  have hbl : b < w.heap.size := block_lt_of_cell hc
  have t1 : ((i : Int) == n) = false := by simp; omega
  have HK := Lib.hid hk
  have HG := Lib.hid hG
  have hne := nm_ne' x (by omega)
  have t2 : decide ((i : Int) < 0) = false := by simp
  have t3 : decide (n < i) = false := by simp; omega
  clear hk hG
  by_cases hcap : c = i + 1
  all_goals
    go_enter Tryd.func13, Tryd.ntmps13
    go_wp2_with (first | (go_at_call 44; refine (parts_k x 3 hx HK.out _ (HG.out.below ((Below.refl _ _).alloc (Nat.le_refl _) _))).mono ?_; rintro e w1 ⟨hb1, b2, off2, cap2, hb2, rfl, hcs⟩; obtain ⟨hcw, hfw⟩ := bcell hb1; have hz1 : w.heap.size + 1 ≤ w1.heap.size := (by have := hb1.size; simp at this; omega); have hrow := row_kept hb1 (heap_alloc_new w _); have HB1 := Lib.hid hb1; clear hb1; simp only [ksK, List.length_nil, List.length_cons, Nat.zero_add, Nat.reduceAdd]; have hk0 : w1.cell? ⟨b2, off2, none⟩ = some (.string ⟨#[111]⟩) := hcs 0 _ rfl; have hb2l0 : b2 < w1.heap.size := block_lt_of_cell hk0; clear hcs) | fail)
    refine wp_loop_rounds 2 ?_
    rw [rounds_succ]
    go_wp2_with (first | (go_at_call 45; refine (operand_short 3 _ _ _ _ (by first | (simp [szK]; done) | (simp [szK]; omega)) (by simp)).mono ?_; rintro e w2 ⟨rfl, rfl⟩) | (refine wpList_store_row rfl 25 _ _ rfl w.heap.size #[.int .i64 0, .int .i64 0, .int .i64 0, .int .i64 0] rfl rfl 25 _ (row_alloc (row_alloc hrow _) _) (by kernel_rfl) (by rfl) (all4 _ _ _ _) ?_))
    refine bodyPost_ret (v := Rd.val ⟨0, 0, 0, 0, 6⟩) (results13 ⟨0, 0, 0, 0, 6⟩ rfl rfl (setRow_heap _ _ _ _ _ _ (row_alloc (row_alloc hrow _) _))) rfl ⟨rfl, ?_⟩
    have hb3 : Below w.heap.size w w1 := ((Below.refl _ _).alloc (Nat.le_refl _) _).trans (HB1.out.mono (by simp))
    exact below_setRow ((hb3.alloc hb3.size _).alloc (by simp; omega) _) (Nat.le_refl _) _
set_option maxHeartbeats 800000 in
set_option maxRecDepth 20000 in
theorem read_k4s (b off n c i x : Nat) (w : World) (hG : Glob w) (hnc : n ≤ c) (hcm : c ≤ 9223372036854775807) (hx : x ≤ 40) (hk : opk x = 4) (hi : n = i + 1)
    (hc : w.cell? ⟨b, off + i, none⟩ = some (.int .u8 x)) :
    Calls Tryd.prog 13 #[.slice (some ⟨b, off, none⟩) n c, .int .i64 i] w fun e w' => e = .returned (Rd.val ⟨0, 0, 0, 0, 6⟩) ∧ Below w.heap.size w w' := by
  have hbl : b < w.heap.size := block_lt_of_cell hc
  have t1 : ((i : Int) == n) = false := by simp; omega
  have HK := Lib.hid hk
  have HG := Lib.hid hG
  have hne := nm_ne' x (by omega)
  have t2 : decide ((i : Int) < 0) = false := by simp
  have t3 : decide (n < i) = false := by simp; omega
  clear hk hG
  by_cases hcap : c = i + 1
  all_goals
    go_enter Tryd.func13, Tryd.ntmps13
    go_wp2_with (first | (go_at_call 44; refine (parts_k x 4 hx HK.out _ (HG.out.below ((Below.refl _ _).alloc (Nat.le_refl _) _))).mono ?_; rintro e w1 ⟨hb1, b2, off2, cap2, hb2, rfl, hcs⟩; obtain ⟨hcw, hfw⟩ := bcell hb1; have hz1 : w.heap.size + 1 ≤ w1.heap.size := (by have := hb1.size; simp at this; omega); have hrow := row_kept hb1 (heap_alloc_new w _); have HB1 := Lib.hid hb1; clear hb1; simp only [ksK, List.length_nil, List.length_cons, Nat.zero_add, Nat.reduceAdd]; have hk0 : w1.cell? ⟨b2, off2, none⟩ = some (.string ⟨#[117]⟩) := hcs 0 _ rfl; have hb2l0 : b2 < w1.heap.size := block_lt_of_cell hk0; have hk1 : w1.cell? ⟨b2, off2 + 1, none⟩ = some (.string ⟨#[117]⟩) := hcs 1 _ rfl; have hb2l1 : b2 < w1.heap.size := block_lt_of_cell hk1; clear hcs) | fail)
    refine wp_loop_rounds 3 ?_
    rw [rounds_succ]
    go_wp2_with (first | (go_at_call 45; refine (operand_short 1 _ _ _ _ (by first | (simp [szK]; done) | (simp [szK]; omega)) (by simp)).mono ?_; rintro e w2 ⟨rfl, rfl⟩) | (refine wpList_store_row rfl 25 _ _ rfl w.heap.size #[.int .i64 0, .int .i64 0, .int .i64 0, .int .i64 0] rfl rfl 25 _ (row_alloc (row_alloc hrow _) _) (by kernel_rfl) (by rfl) (all4 _ _ _ _) ?_))
    refine bodyPost_ret (v := Rd.val ⟨0, 0, 0, 0, 6⟩) (results13 ⟨0, 0, 0, 0, 6⟩ rfl rfl (setRow_heap _ _ _ _ _ _ (row_alloc (row_alloc hrow _) _))) rfl ⟨rfl, ?_⟩
    have hb3 : Below w.heap.size w w1 := ((Below.refl _ _).alloc (Nat.le_refl _) _).trans (HB1.out.mono (by simp))
    exact below_setRow ((hb3.alloc hb3.size _).alloc (by simp; omega) _) (Nat.le_refl _) _
set_option maxHeartbeats 800000 in
set_option maxRecDepth 20000 in
theorem read_k4t (b off n c i x : Nat) (y : Int) (w : World) (hG : Glob w) (hnc : n ≤ c) (hcm : c ≤ 9223372036854775807) (hx : x ≤ 40) (hk : opk x = 4) (hi : i + 1 < n) (hi2 : n ≤ i + 2) (by0 : 0 ≤ y) (by1 : y ≤ 255)
    (hc : w.cell? ⟨b, off + i, none⟩ = some (.int .u8 x)) (hc1 : w.cell? ⟨b, off + (i + 1), none⟩ = some (.int .u8 y)) :
    Calls Tryd.prog 13 #[.slice (some ⟨b, off, none⟩) n c, .int .i64 i] w fun e w' => e = .returned (Rd.val ⟨0, 0, 0, 0, 6⟩) ∧ Below w.heap.size w w' := by
  have hbl : b < w.heap.size := block_lt_of_cell hc
  have t1 : ((i : Int) == n) = false := by simp; omega
  have HK := Lib.hid hk
  have HG := Lib.hid hG
  have hne := nm_ne' x (by omega)
  have t2 : decide ((i : Int) < 0) = false := by simp
  have t3 : decide (n < i) = false := by simp; omega
  clear hk hG
  go_enter Tryd.func13, Tryd.ntmps13
  go_wp2_with (first | (go_at_call 44; refine (parts_k x 4 hx HK.out _ (HG.out.below ((Below.refl _ _).alloc (Nat.le_refl _) _))).mono ?_; rintro e w1 ⟨hb1, b2, off2, cap2, hb2, rfl, hcs⟩; obtain ⟨hcw, hfw⟩ := bcell hb1; have hz1 : w.heap.size + 1 ≤ w1.heap.size := (by have := hb1.size; simp at this; omega); have hrow := row_kept hb1 (heap_alloc_new w _); have HB1 := Lib.hid hb1; clear hb1; simp only [ksK, List.length_nil, List.length_cons, Nat.zero_add, Nat.reduceAdd]; have hk0 : w1.cell? ⟨b2, off2, none⟩ = some (.string ⟨#[117]⟩) := hcs 0 _ rfl; have hb2l0 : b2 < w1.heap.size := block_lt_of_cell hk0; have hk1 : w1.cell? ⟨b2, off2 + 1, none⟩ = some (.string ⟨#[117]⟩) := hcs 1 _ rfl; have hb2l1 : b2 < w1.heap.size := block_lt_of_cell hk1; clear hcs) | fail)
  refine wp_loop_rounds 3 ?_
  rw [rounds_succ]
  have HY0_0 := Lib.hid (cell_al (cell_al (cell_be HB1.out (cell_al hc1 _)) (.cells #[.int .i64 x, .int .i64 0, .int .i64 0, .int .i64 1] 25)) (.cells #[.int .i64 0, .int .i64 0] 103))
  go_wp2_with (first | (go_at_call 45; refine (operand_u b (off + (i + 1)) (n - (i + 1)) (c - (i + 1)) y _ (by omega) by0 by1 HY0_0.out).mono ?_; rintro e w2 ⟨rfl, rfl⟩) | fail)
  by_cases hcap : c = i + 2
  all_goals
    rw [rounds_succ]
    go_wp2_with (first | (go_at_call 45; refine (operand_short 1 _ _ _ _ (by first | (simp [szK]; done) | (simp [szK]; omega)) (by simp)).mono ?_; rintro e w2 ⟨rfl, rfl⟩) | (refine wpList_store_row rfl 25 _ _ rfl w.heap.size #[.int .i64 0, .int .i64 0, .int .i64 0, .int .i64 0] rfl rfl 25 _ (row_alloc (row_alloc hrow _) _) (by kernel_rfl) (by rfl) (all4 _ _ _ _) ?_))
    refine bodyPost_ret (v := Rd.val ⟨0, 0, 0, 0, 6⟩) (results13 ⟨0, 0, 0, 0, 6⟩ rfl rfl (setRow_heap _ _ _ _ _ _ (row_alloc (row_alloc hrow _) _))) rfl ⟨rfl, ?_⟩
    have hb3 : Below w.heap.size w w1 := ((Below.refl _ _).alloc (Nat.le_refl _) _).trans (HB1.out.mono (by simp))
    exact below_setRow ((hb3.alloc hb3.size _).alloc (by simp; omega) _) (Nat.le_refl _) _
end Go.Proofs.YtkphijabhoppnaaDoor
namespace Go.Proofs.YtkphijabhoppnaaDoor
open Go.RowKit
set_option linter.unusedSimpArgs false
set_option linter.unusedVariables false
def Byt (w : World) (v : Value) (l : List Int) : Prop :=
  ∃ (A : Option Addr) (c : Nat), v = .slice A l.length c ∧ l.length ≤ c ∧ c ≤ 9223372036854775807 ∧ (∀ x ∈ l, 0 ≤ x ∧ x ≤ 255) ∧
    (l ≠ [] → ∃ b off, A = some ⟨b, off, none⟩ ∧ ∀ j, j < l.length → w.cell? ⟨b, off + j, none⟩ = some (.int .u8 (l.getD j 0)))
theorem Byt.below {w w1 : World} {v : Value} {l : List Int} (h : Byt w v l) (hb : Below w.heap.size w w1) : Byt w1 v l := by
  obtain ⟨A, c, e, h1, h2, h3, h4⟩ := h
  refine ⟨A, c, e, h1, h2, h3, fun hn => ?_⟩
  obtain ⟨b, off, e2, hc⟩ := h4 hn
  exact ⟨b, off, e2, fun j hj => cell_be hb (hc j hj)⟩
def readK (l : List Int) (i : Nat) (x : Int) : Nat → Rd
  | 0 => ⟨x, 0, 0, 1, 0⟩
  | 1 => if i + 1 < l.length then ⟨x, l.getD (i + 1) 0, 0, 2, 0⟩ else ⟨0, 0, 0, 0, 6⟩
  | 2 => if i + 1 < l.length then ⟨x, s8 (l.getD (i + 1) 0), 0, 2, 0⟩ else ⟨0, 0, 0, 0, 6⟩
  | 3 => if i + 2 < l.length then ⟨x, s16 (l.getD (i + 1) 0) (l.getD (i + 2) 0), 0, 3, 0⟩ else ⟨0, 0, 0, 0, 6⟩
  | _ => if i + 2 < l.length then ⟨x, l.getD (i + 1) 0, l.getD (i + 2) 0, 3, 0⟩ else ⟨0, 0, 0, 0, 6⟩
def readAt (l : List Int) (i : Nat) : Rd := if 40 < l.getD i 0 then ⟨0, 0, 0, 0, 5⟩ else readK l i (l.getD i 0) (opk (l.getD i 0))
def readS (l : List Int) (at' : Int) : Rd :=
  if at' < 0 ∨ (l.length : Int) < at' then ⟨0, 0, 0, 0, 1⟩ else if at' = l.length then ⟨0, 0, 0, 0, 6⟩ else readAt l at'.toNat
theorem read_calls (v : Value) (l : List Int) (at' : Int) (w : World) (hG : Glob w) (hb : Byt w v l) :
    Calls Tryd.prog 13 #[v, .int .i64 at'] w fun e w' => e = .returned (readS l at').val ∧ Below w.heap.size w w' := by
  obtain ⟨A, c, rfl, hnc, hcm, hby, hcl⟩ := hb
  unfold readS
  by_cases h1 : at' < 0 ∨ (l.length : Int) < at'
  · rw [if_pos h1]
    exact read_arg A _ c at' w h1
  · rw [if_neg h1]
    by_cases h2 : at' = l.length
    · rw [if_pos h2, h2]
      exact read_end A _ c w
    · rw [if_neg h2]
      obtain ⟨i, rfl⟩ := Int.eq_ofNat_of_zero_le (show 0 ≤ at' by omega)
      have hi : i < l.length := by omega
      obtain ⟨b, off, rfl, hc⟩ := hcl (by intro h; rw [h] at hi; simp at hi)
      have hcell := hc i hi
      have hxb := hby (l.getD i 0) (by rw [List.getD_eq_getElem?_getD, List.getElem?_eq_getElem hi]; exact List.getElem_mem hi)
      have byte : ∀ j, j < l.length → 0 ≤ l.getD j 0 ∧ l.getD j 0 ≤ 255 := fun j hj => hby (l.getD j 0) (by rw [List.getD_eq_getElem?_getD, List.getElem?_eq_getElem hj]; exact List.getElem_mem hj)
      rw [Int.toNat_natCast]
      unfold readAt
      obtain ⟨x, hx⟩ := Int.eq_ofNat_of_zero_le hxb.1
      rw [hx] at hcell hxb ⊢
      by_cases h40 : (40 : Int) < x
      · rw [if_pos h40]
        exact read_form b off _ c i x w hi h40 hxb.2 hcell
      · rw [if_neg h40]
        have hx40 : x ≤ 40 := by omega
        rcases opk_le x with hk | hk | hk | hk | hk <;> rw [hk] <;> simp only [readK]
        · exact read_k0 b off _ c i x w hG hi hx40 hk hcell
        · by_cases h : i + 1 < l.length
          · rw [if_pos h]
            exact read_k1 b off _ c i x _ w hG hnc hcm hx40 hk h (byte _ h).1 (byte _ h).2 hcell (hc _ h)
          · rw [if_neg h]
            exact read_k1s b off _ c i x w hG hnc hcm hx40 hk (by omega) hcell
        · by_cases h : i + 1 < l.length
          · rw [if_pos h]
            exact read_k2 b off _ c i x _ w hG hnc hcm hx40 hk h (byte _ h).1 (byte _ h).2 hcell (hc _ h)
          · rw [if_neg h]
            exact read_k2s b off _ c i x w hG hnc hcm hx40 hk (by omega) hcell
        · by_cases h : i + 2 < l.length
          · rw [if_pos h]
            exact read_k3 b off _ c i x _ _ w hG hnc hcm hx40 hk h (byte _ (by omega)).1 (byte _ (by omega)).2 (byte _ h).1 (byte _ h).2 hcell (hc _ (by omega)) (hc _ h)
          · rw [if_neg h]
            exact read_k3s b off _ c i x w hG hnc hcm hx40 hk hi (by omega) hcell
        · by_cases h : i + 2 < l.length
          · rw [if_pos h]
            exact read_k4 b off _ c i x _ _ w hG hnc hcm hx40 hk h (byte _ (by omega)).1 (byte _ (by omega)).2 (byte _ h).1 (byte _ h).2 hcell (hc _ (by omega)) (hc _ h)
          · rw [if_neg h]
            by_cases h' : i + 1 < l.length
            · exact read_k4t b off _ c i x _ w hG hnc hcm hx40 hk h' (by omega) (byte _ h').1 (byte _ h').2 hcell (hc _ h')
            · exact read_k4s b off _ c i x w hG hnc hcm hx40 hk (by omega) hcell
end Go.Proofs.YtkphijabhoppnaaDoor
