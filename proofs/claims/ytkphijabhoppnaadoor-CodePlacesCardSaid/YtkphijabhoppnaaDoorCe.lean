/- A bytecode read that has operands (brazier/code.Read). -/
import Derived.Test.YtkphijabhoppnaaDoorCd
namespace Go.Proofs.YtkphijabhoppnaaDoor
open Go.RowKit
set_option linter.unusedSimpArgs false
set_option linter.unusedVariables false

theorem cell_al {w : World} {a : Addr} {v : Value} (h : w.cell? a = some v) (o : Obj) : (w.alloc o).cell? a = some v :=
  (World.cell?_of_block (w := w) (Below.heap_alloc w o a.block (block_lt_of_cell h))).trans h
theorem cell_be {w w1 : World} {a : Addr} {v : Value} (hb : Below w.heap.size w w1) (h : w.cell? a = some v) : w1.cell? a = some v :=
  (hb.cell (block_lt_of_cell h)).trans h
theorem below_drewN0 {B : Nat} {a w : World} (h : Below B a w) (n : Nat) : Below B a (w.drewN n) := ⟨h.os, h.tape, h.output, h.size, h.block⟩

set_option maxHeartbeats 800000 in
set_option maxRecDepth 20000 in
theorem read_k1 (b off n c i x : Nat) (y : Int) (w : World) (hG : Glob w) (hnc : n ≤ c) (hcm : c ≤ 9223372036854775807) (hx : x ≤ 40) (hk : opk x = 1) (hi : i + 1 < n) (by0 : 0 ≤ y) (by1 : y ≤ 255)
    (hc : w.cell? ⟨b, off + i, none⟩ = some (.int .u8 x)) (hc1 : w.cell? ⟨b, off + (i + 1), none⟩ = some (.int .u8 y)) :
    Calls Tryd.prog 13 #[.slice (some ⟨b, off, none⟩) n c, .int .i64 i] w fun e w' => e = .returned (Rd.val ⟨x, y, 0, 2, 0⟩) ∧ Below w.heap.size w w' := by
  have hbl : b < w.heap.size := block_lt_of_cell hc
  have t1 : ((i : Int) == n) = false := by simp; omega
  have HK := Lib.hid hk
  have HG := Lib.hid hG
  have hne := nm_ne' x (by omega)
  have t2 : decide ((i : Int) < 0) = false := by simp
  have t3 : decide (n < i) = false := by simp; omega
  clear hk hG
  go_enter Tryd.func13, Tryd.ntmps13
  go_wp2_with (first | (go_at_call 44; refine (parts_k x 1 hx HK.out _ (HG.out.below ((Below.refl _ _).alloc (Nat.le_refl _) _))).mono ?_; rintro e w1 ⟨hb1, b2, off2, cap2, hb2, rfl, hcs⟩; obtain ⟨hcw, hfw⟩ := bcell hb1; have hz1 : w.heap.size + 1 ≤ w1.heap.size := (by have := hb1.size; simp at this; omega); have hrow := row_kept hb1 (heap_alloc_new w _); have HB1 := Lib.hid hb1; clear hb1; simp only [ksK, List.length_nil, List.length_cons, Nat.zero_add, Nat.reduceAdd]; have hk0 : w1.cell? ⟨b2, off2, none⟩ = some (.string ⟨#[117]⟩) := hcs 0 _ rfl; have hb2l0 : b2 < w1.heap.size := block_lt_of_cell hk0; clear hcs) | fail)
  refine wp_loop_rounds 2 ?_
  rw [rounds_succ]
  have HY0_0 := Lib.hid (cell_al (cell_al (cell_be HB1.out (cell_al hc1 _)) (.cells #[.int .i64 x, .int .i64 0, .int .i64 0, .int .i64 1] 25)) (.cells #[.int .i64 0, .int .i64 0] 103))
  go_wp2_with (first | (go_at_call 45; refine (operand_u b (off + (i + 1)) (n - (i + 1)) (c - (i + 1)) y _ (by omega) by0 by1 HY0_0.out).mono ?_; rintro e w2 ⟨rfl, rfl⟩) | fail)
  rw [rounds_succ]
  go_wp2_with fail
  go_region
  go_wp2_with (refine wpList_store_row rfl 25 _ _ rfl w.heap.size #[.int .i64 x, .int .i64 y, .int .i64 0, .int .i64 2] rfl rfl 25 _ (row_alloc (row_alloc hrow _) _) (by kernel_rfl) (by rfl) (all4 _ _ _ _) ?_)
  refine bodyPost_ret (v := Rd.val ⟨x, y, 0, 2, 0⟩) (results13 ⟨x, y, 0, 2, 0⟩ rfl rfl (setRow_heap _ _ _ _ _ _ (row_alloc (row_alloc hrow _) _))) rfl ⟨rfl, ?_⟩
  have hb3 : Below w.heap.size w w1 := ((Below.refl _ _).alloc (Nat.le_refl _) _).trans (HB1.out.mono (by simp))
  exact below_setRow (((hb3.alloc hb3.size _).alloc (by simp; omega) _).drew) (Nat.le_refl _) _

set_option maxHeartbeats 800000 in
set_option maxRecDepth 20000 in
theorem read_k2 (b off n c i x : Nat) (y : Int) (w : World) (hG : Glob w) (hnc : n ≤ c) (hcm : c ≤ 9223372036854775807) (hx : x ≤ 40) (hk : opk x = 2) (hi : i + 1 < n) (by0 : 0 ≤ y) (by1 : y ≤ 255)
    (hc : w.cell? ⟨b, off + i, none⟩ = some (.int .u8 x)) (hc1 : w.cell? ⟨b, off + (i + 1), none⟩ = some (.int .u8 y)) :
    Calls Tryd.prog 13 #[.slice (some ⟨b, off, none⟩) n c, .int .i64 i] w fun e w' => e = .returned (Rd.val ⟨x, s8 y, 0, 2, 0⟩) ∧ Below w.heap.size w w' := by
  have hbl : b < w.heap.size := block_lt_of_cell hc
  have t1 : ((i : Int) == n) = false := by simp; omega
  have HK := Lib.hid hk
  have HG := Lib.hid hG
  have hne := nm_ne' x (by omega)
  have t2 : decide ((i : Int) < 0) = false := by simp
  have t3 : decide (n < i) = false := by simp; omega
  clear hk hG
  go_enter Tryd.func13, Tryd.ntmps13
  go_wp2_with (first | (go_at_call 44; refine (parts_k x 2 hx HK.out _ (HG.out.below ((Below.refl _ _).alloc (Nat.le_refl _) _))).mono ?_; rintro e w1 ⟨hb1, b2, off2, cap2, hb2, rfl, hcs⟩; obtain ⟨hcw, hfw⟩ := bcell hb1; have hz1 : w.heap.size + 1 ≤ w1.heap.size := (by have := hb1.size; simp at this; omega); have hrow := row_kept hb1 (heap_alloc_new w _); have HB1 := Lib.hid hb1; clear hb1; simp only [ksK, List.length_nil, List.length_cons, Nat.zero_add, Nat.reduceAdd]; have hk0 : w1.cell? ⟨b2, off2, none⟩ = some (.string ⟨#[115]⟩) := hcs 0 _ rfl; have hb2l0 : b2 < w1.heap.size := block_lt_of_cell hk0; clear hcs) | fail)
  refine wp_loop_rounds 2 ?_
  rw [rounds_succ]
  have HY0_0 := Lib.hid (cell_al (cell_al (cell_be HB1.out (cell_al hc1 _)) (.cells #[.int .i64 x, .int .i64 0, .int .i64 0, .int .i64 1] 25)) (.cells #[.int .i64 0, .int .i64 0] 103))
  go_wp2_with (first | (go_at_call 45; refine (operand_s b (off + (i + 1)) (n - (i + 1)) (c - (i + 1)) y _ (by omega) by0 by1 HY0_0.out).mono ?_; rintro e w2 ⟨rfl, rfl⟩) | fail)
  rw [rounds_succ]
  go_wp2_with fail
  go_region
  go_wp2_with (refine wpList_store_row rfl 25 _ _ rfl w.heap.size #[.int .i64 x, .int .i64 (s8 y), .int .i64 0, .int .i64 2] rfl rfl 25 _ (row_alloc (row_alloc hrow _) _) (by kernel_rfl) (by rfl) (all4 _ _ _ _) ?_)
  refine bodyPost_ret (v := Rd.val ⟨x, s8 y, 0, 2, 0⟩) (results13 ⟨x, s8 y, 0, 2, 0⟩ rfl rfl (setRow_heap _ _ _ _ _ _ (row_alloc (row_alloc hrow _) _))) rfl ⟨rfl, ?_⟩
  have hb3 : Below w.heap.size w w1 := ((Below.refl _ _).alloc (Nat.le_refl _) _).trans (HB1.out.mono (by simp))
  exact below_setRow (((hb3.alloc hb3.size _).alloc (by simp; omega) _).drew) (Nat.le_refl _) _

set_option maxHeartbeats 800000 in
set_option maxRecDepth 20000 in
theorem read_k3 (b off n c i x : Nat) (y z : Int) (w : World) (hG : Glob w) (hnc : n ≤ c) (hcm : c ≤ 9223372036854775807) (hx : x ≤ 40) (hk : opk x = 3) (hi : i + 2 < n) (by0 : 0 ≤ y) (by1 : y ≤ 255) (bz0 : 0 ≤ z) (bz1 : z ≤ 255)
    (hc : w.cell? ⟨b, off + i, none⟩ = some (.int .u8 x)) (hc1 : w.cell? ⟨b, off + (i + 1), none⟩ = some (.int .u8 y)) (hc2 : w.cell? ⟨b, off + (i + 1) + 1, none⟩ = some (.int .u8 z)) :
    Calls Tryd.prog 13 #[.slice (some ⟨b, off, none⟩) n c, .int .i64 i] w fun e w' => e = .returned (Rd.val ⟨x, s16 y z, 0, 3, 0⟩) ∧ Below w.heap.size w w' := by
  have hbl : b < w.heap.size := block_lt_of_cell hc
  have t1 : ((i : Int) == n) = false := by simp; omega
  have HK := Lib.hid hk
  have HG := Lib.hid hG
  have hne := nm_ne' x (by omega)
  have t2 : decide ((i : Int) < 0) = false := by simp
  have t3 : decide (n < i) = false := by simp; omega
  clear hk hG
  go_enter Tryd.func13, Tryd.ntmps13
  go_wp2_with (first | (go_at_call 44; refine (parts_k x 3 hx HK.out _ (HG.out.below ((Below.refl _ _).alloc (Nat.le_refl _) _))).mono ?_; rintro e w1 ⟨hb1, b2, off2, cap2, hb2, rfl, hcs⟩; obtain ⟨hcw, hfw⟩ := bcell hb1; have hz1 : w.heap.size + 1 ≤ w1.heap.size := (by have := hb1.size; simp at this; omega); have hrow := row_kept hb1 (heap_alloc_new w _); have HB1 := Lib.hid hb1; clear hb1; simp only [ksK, List.length_nil, List.length_cons, Nat.zero_add, Nat.reduceAdd]; have hk0 : w1.cell? ⟨b2, off2, none⟩ = some (.string ⟨#[111]⟩) := hcs 0 _ rfl; have hb2l0 : b2 < w1.heap.size := block_lt_of_cell hk0; clear hcs) | fail)
  refine wp_loop_rounds 2 ?_
  rw [rounds_succ]
  have HY0_0 := Lib.hid (cell_al (cell_al (cell_be HB1.out (cell_al hc1 _)) (.cells #[.int .i64 x, .int .i64 0, .int .i64 0, .int .i64 1] 25)) (.cells #[.int .i64 0, .int .i64 0] 103))
  have HY0_1 := Lib.hid (cell_al (cell_al (cell_be HB1.out (cell_al hc2 _)) (.cells #[.int .i64 x, .int .i64 0, .int .i64 0, .int .i64 1] 25)) (.cells #[.int .i64 0, .int .i64 0] 103))
  go_wp2_with (first | (go_at_call 45; refine (operand_o b (off + (i + 1)) (n - (i + 1)) (c - (i + 1)) y z _ (by omega) by0 by1 bz0 bz1 HY0_0.out HY0_1.out).mono ?_; rintro e w2 ⟨rfl, rfl⟩) | fail)
  rw [rounds_succ]
  go_wp2_with fail
  go_region
  go_wp2_with (refine wpList_store_row rfl 25 _ _ rfl w.heap.size #[.int .i64 x, .int .i64 (s16 y z), .int .i64 0, .int .i64 3] rfl rfl 25 _ (row_alloc (row_alloc hrow _) _) (by kernel_rfl) (by rfl) (all4 _ _ _ _) ?_)
  refine bodyPost_ret (v := Rd.val ⟨x, s16 y z, 0, 3, 0⟩) (results13 ⟨x, s16 y z, 0, 3, 0⟩ rfl rfl (setRow_heap _ _ _ _ _ _ (row_alloc (row_alloc hrow _) _))) rfl ⟨rfl, ?_⟩
  have hb3 : Below w.heap.size w w1 := ((Below.refl _ _).alloc (Nat.le_refl _) _).trans (HB1.out.mono (by simp))
  exact below_setRow ((((hb3.alloc hb3.size _).alloc (by simp; omega) _).drew).drew) (Nat.le_refl _) _

set_option maxHeartbeats 800000 in
set_option maxRecDepth 20000 in
theorem read_k4 (b off n c i x : Nat) (y z : Int) (w : World) (hG : Glob w) (hnc : n ≤ c) (hcm : c ≤ 9223372036854775807) (hx : x ≤ 40) (hk : opk x = 4) (hi : i + 2 < n) (by0 : 0 ≤ y) (by1 : y ≤ 255) (bz0 : 0 ≤ z) (bz1 : z ≤ 255)
    (hc : w.cell? ⟨b, off + i, none⟩ = some (.int .u8 x)) (hc1 : w.cell? ⟨b, off + (i + 1), none⟩ = some (.int .u8 y)) (hc2 : w.cell? ⟨b, off + (i + 2), none⟩ = some (.int .u8 z)) :
    Calls Tryd.prog 13 #[.slice (some ⟨b, off, none⟩) n c, .int .i64 i] w fun e w' => e = .returned (Rd.val ⟨x, y, z, 3, 0⟩) ∧ Below w.heap.size w w' := by
  have hbl : b < w.heap.size := block_lt_of_cell hc
  have t1 : ((i : Int) == n) = false := by simp; omega
  have HK := Lib.hid hk
  have HG := Lib.hid hG
  have hne := nm_ne' x (by omega)
  have t2 : decide ((i : Int) < 0) = false := by simp
  have t3 : decide (n < i) = false := by simp; omega
  clear hk hG
  go_enter Tryd.func13, Tryd.ntmps13
  go_wp2_with (first | (go_at_call 44; refine (parts_k x 4 hx HK.out _ (HG.out.below ((Below.refl _ _).alloc (Nat.le_refl _) _))).mono ?_; rintro e w1 ⟨hb1, b2, off2, cap2, hb2, rfl, hcs⟩; obtain ⟨hcw, hfw⟩ := bcell hb1; have hz1 : w.heap.size + 1 ≤ w1.heap.size := (by have := hb1.size; simp at this; omega); have hrow := row_kept hb1 (heap_alloc_new w _); have HB1 := Lib.hid hb1; clear hb1; simp only [ksK, List.length_nil, List.length_cons, Nat.zero_add, Nat.reduceAdd]; have hk0 : w1.cell? ⟨b2, off2, none⟩ = some (.string ⟨#[117]⟩) := hcs 0 _ rfl; have hb2l0 : b2 < w1.heap.size := block_lt_of_cell hk0; have hk1 : w1.cell? ⟨b2, off2 + 1, none⟩ = some (.string ⟨#[117]⟩) := hcs 1 _ rfl; have hb2l1 : b2 < w1.heap.size := block_lt_of_cell hk1; clear hcs) | fail)
  refine wp_loop_rounds 3 ?_
  rw [rounds_succ]
  have HY0_0 := Lib.hid (cell_al (cell_al (cell_be HB1.out (cell_al hc1 _)) (.cells #[.int .i64 x, .int .i64 0, .int .i64 0, .int .i64 1] 25)) (.cells #[.int .i64 0, .int .i64 0] 103))
  go_wp2_with (first | (go_at_call 45; refine (operand_u b (off + (i + 1)) (n - (i + 1)) (c - (i + 1)) y _ (by omega) by0 by1 HY0_0.out).mono ?_; rintro e w2 ⟨rfl, rfl⟩) | fail)
  rw [rounds_succ]
  have HY1_0 := Lib.hid (cell_al (cell_al (cell_be HB1.out (cell_al hc2 _)) (.cells #[.int .i64 x, .int .i64 0, .int .i64 0, .int .i64 2] 25)) (.cells #[.int .i64 y, .int .i64 0] 103))
  go_wp2_with (first | (go_at_call 45; refine (operand_u b (off + (i + 2)) (n - (i + 2)) (c - (i + 2)) z _ (by omega) bz0 bz1 HY1_0.out).mono ?_; rintro e w2 ⟨rfl, rfl⟩) | fail)
  rw [rounds_succ]
  go_wp2_with fail
  go_region
  go_wp2_with (refine wpList_store_row rfl 25 _ _ rfl w.heap.size #[.int .i64 x, .int .i64 y, .int .i64 z, .int .i64 3] rfl rfl 25 _ (row_alloc (row_alloc hrow _) _) (by kernel_rfl) (by rfl) (all4 _ _ _ _) ?_)
  refine bodyPost_ret (v := Rd.val ⟨x, y, z, 3, 0⟩) (results13 ⟨x, y, z, 3, 0⟩ rfl rfl (setRow_heap _ _ _ _ _ _ (row_alloc (row_alloc hrow _) _))) rfl ⟨rfl, ?_⟩
  have hb3 : Below w.heap.size w w1 := ((Below.refl _ _).alloc (Nat.le_refl _) _).trans (HB1.out.mono (by simp))
  exact below_setRow (((hb3.alloc hb3.size _).alloc (by simp; omega) _).drew) (Nat.le_refl _) _

set_option maxHeartbeats 800000 in
set_option maxRecDepth 20000 in
theorem read_k1s (b off n c i x : Nat) (w : World) (hG : Glob w) (hnc : n ≤ c) (hcm : c ≤ 9223372036854775807) (hx : x ≤ 40) (hk : opk x = 1) (hi : n = i + 1)
    (hc : w.cell? ⟨b, off + i, none⟩ = some (.int .u8 x)) :
    Calls Tryd.prog 13 #[.slice (some ⟨b, off, none⟩) n c, .int .i64 i] w fun e w' => e = .returned (Rd.val ⟨0, 0, 0, 0, 6⟩) ∧ Below w.heap.size w w' := by
  have hbl : b < w.heap.size := block_lt_of_cell hc
  have t1 : ((i : Int) == n) = false := by simp; omega
  have HK := Lib.hid hk
  have HG := Lib.hid hG
  have hne := nm_ne' x (by omega)
  have t2 : decide ((i : Int) < 0) = false := by simp
  have t3 : decide (n < i) = false := by simp; omega
  clear hk hG
  by_cases hcap : c = i + 1
  all_goals
    go_enter Tryd.func13, Tryd.ntmps13
    go_wp2_with (first | (go_at_call 44; refine (parts_k x 1 hx HK.out _ (HG.out.below ((Below.refl _ _).alloc (Nat.le_refl _) _))).mono ?_; rintro e w1 ⟨hb1, b2, off2, cap2, hb2, rfl, hcs⟩; obtain ⟨hcw, hfw⟩ := bcell hb1; have hz1 : w.heap.size + 1 ≤ w1.heap.size := (by have := hb1.size; simp at this; omega); have hrow := row_kept hb1 (heap_alloc_new w _); have HB1 := Lib.hid hb1; clear hb1; simp only [ksK, List.length_nil, List.length_cons, Nat.zero_add, Nat.reduceAdd]; have hk0 : w1.cell? ⟨b2, off2, none⟩ = some (.string ⟨#[117]⟩) := hcs 0 _ rfl; have hb2l0 : b2 < w1.heap.size := block_lt_of_cell hk0; clear hcs) | fail)
    refine wp_loop_rounds 2 ?_
    rw [rounds_succ]
    go_wp2_with (first | (go_at_call 45; refine (operand_short 1 _ _ _ _ (by first | (simp [szK]; done) | (simp [szK]; omega)) (by simp)).mono ?_; rintro e w2 ⟨rfl, rfl⟩) | (refine wpList_store_row rfl 25 _ _ rfl w.heap.size #[.int .i64 0, .int .i64 0, .int .i64 0, .int .i64 0] rfl rfl 25 _ (row_alloc (row_alloc hrow _) _) (by kernel_rfl) (by rfl) (all4 _ _ _ _) ?_))
    refine bodyPost_ret (v := Rd.val ⟨0, 0, 0, 0, 6⟩) (results13 ⟨0, 0, 0, 0, 6⟩ rfl rfl (setRow_heap _ _ _ _ _ _ (row_alloc (row_alloc hrow _) _))) rfl ⟨rfl, ?_⟩
    have hb3 : Below w.heap.size w w1 := ((Below.refl _ _).alloc (Nat.le_refl _) _).trans (HB1.out.mono (by simp))
    exact below_setRow ((hb3.alloc hb3.size _).alloc (by simp; omega) _) (Nat.le_refl _) _

set_option maxHeartbeats 800000 in
set_option maxRecDepth 20000 in
theorem read_k2s (b off n c i x : Nat) (w : World) (hG : Glob w) (hnc : n ≤ c) (hcm : c ≤ 9223372036854775807) (hx : x ≤ 40) (hk : opk x = 2) (hi : n = i + 1)
    (hc : w.cell? ⟨b, off + i, none⟩ = some (.int .u8 x)) :
    Calls Tryd.prog 13 #[.slice (some ⟨b, off, none⟩) n c, .int .i64 i] w fun e w' => e = .returned (Rd.val ⟨0, 0, 0, 0, 6⟩) ∧ Below w.heap.size w w' := by
  have hbl : b < w.heap.size := block_lt_of_cell hc
  have t1 : ((i : Int) == n) = false := by simp; omega
  have HK := Lib.hid hk
  have HG := Lib.hid hG
  have hne := nm_ne' x (by omega)
  have t2 : decide ((i : Int) < 0) = false := by simp
  have t3 : decide (n < i) = false := by simp; omega
  clear hk hG
  by_cases hcap : c = i + 1
  all_goals
    go_enter Tryd.func13, Tryd.ntmps13
    go_wp2_with (first | (go_at_call 44; refine (parts_k x 2 hx HK.out _ (HG.out.below ((Below.refl _ _).alloc (Nat.le_refl _) _))).mono ?_; rintro e w1 ⟨hb1, b2, off2, cap2, hb2, rfl, hcs⟩; obtain ⟨hcw, hfw⟩ := bcell hb1; have hz1 : w.heap.size + 1 ≤ w1.heap.size := (by have := hb1.size; simp at this; omega); have hrow := row_kept hb1 (heap_alloc_new w _); have HB1 := Lib.hid hb1; clear hb1; simp only [ksK, List.length_nil, List.length_cons, Nat.zero_add, Nat.reduceAdd]; have hk0 : w1.cell? ⟨b2, off2, none⟩ = some (.string ⟨#[115]⟩) := hcs 0 _ rfl; have hb2l0 : b2 < w1.heap.size := block_lt_of_cell hk0; clear hcs) | fail)
    refine wp_loop_rounds 2 ?_
    rw [rounds_succ]
    go_wp2_with (first | (go_at_call 45; refine (operand_short 2 _ _ _ _ (by first | (simp [szK]; done) | (simp [szK]; omega)) (by simp)).mono ?_; rintro e w2 ⟨rfl, rfl⟩) | (refine wpList_store_row rfl 25 _ _ rfl w.heap.size #[.int .i64 0, .int .i64 0, .int .i64 0, .int .i64 0] rfl rfl 25 _ (row_alloc (row_alloc hrow _) _) (by kernel_rfl) (by rfl) (all4 _ _ _ _) ?_))
    refine bodyPost_ret (v := Rd.val ⟨0, 0, 0, 0, 6⟩) (results13 ⟨0, 0, 0, 0, 6⟩ rfl rfl (setRow_heap _ _ _ _ _ _ (row_alloc (row_alloc hrow _) _))) rfl ⟨rfl, ?_⟩
    have hb3 : Below w.heap.size w w1 := ((Below.refl _ _).alloc (Nat.le_refl _) _).trans (HB1.out.mono (by simp))
    exact below_setRow ((hb3.alloc hb3.size _).alloc (by simp; omega) _) (Nat.le_refl _) _

set_option maxHeartbeats 800000 in
set_option maxRecDepth 20000 in
theorem read_k3s (b off n c i x : Nat) (w : World) (hG : Glob w) (hnc : n ≤ c) (hcm : c ≤ 9223372036854775807) (hx : x ≤ 40) (hk : opk x = 3) (hi : i < n) (hi2 : n ≤ i + 2)
    (hc : w.cell? ⟨b, off + i, none⟩ = some (.int .u8 x)) :
    Calls Tryd.prog 13 #[.slice (some ⟨b, off, none⟩) n c, .int .i64 i] w fun e w' => e = .returned (Rd.val ⟨0, 0, 0, 0, 6⟩) ∧ Below w.heap.size w w' := by
  have hbl : b < w.heap.size := block_lt_of_cell hc
  have t1 : ((i : Int) == n) = false := by simp; omega
  have HK := Lib.hid hk
  have HG := Lib.hid hG
  have hne := nm_ne' x (by omega)
  have t2 : decide ((i : Int) < 0) = false := by simp
  have t3 : decide (n < i) = false := by simp; omega
  clear hk hG
  by_cases hcap : c = i + 1
  all_goals
    go_enter Tryd.func13, Tryd.ntmps13
    go_wp2_with (first | (go_at_call 44; refine (parts_k x 3 hx HK.out _ (HG.out.below ((Below.refl _ _).alloc (Nat.le_refl _) _))).mono ?_; rintro e w1 ⟨hb1, b2, off2, cap2, hb2, rfl, hcs⟩; obtain ⟨hcw, hfw⟩ := bcell hb1; have hz1 : w.heap.size + 1 ≤ w1.heap.size := (by have := hb1.size; simp at this; omega); have hrow := row_kept hb1 (heap_alloc_new w _); have HB1 := Lib.hid hb1; clear hb1; simp only [ksK, List.length_nil, List.length_cons, Nat.zero_add, Nat.reduceAdd]; have hk0 : w1.cell? ⟨b2, off2, none⟩ = some (.string ⟨#[111]⟩) := hcs 0 _ rfl; have hb2l0 : b2 < w1.heap.size := block_lt_of_cell hk0; clear hcs) | fail)
    refine wp_loop_rounds 2 ?_
    rw [rounds_succ]
    go_wp2_with (first | (go_at_call 45; refine (operand_short 3 _ _ _ _ (by first | (simp [szK]; done) | (simp [szK]; omega)) (by simp)).mono ?_; rintro e w2 ⟨rfl, rfl⟩) | (refine wpList_store_row rfl 25 _ _ rfl w.heap.size #[.int .i64 0, .int .i64 0, .int .i64 0, .int .i64 0] rfl rfl 25 _ (row_alloc (row_alloc hrow _) _) (by kernel_rfl) (by rfl) (all4 _ _ _ _) ?_))
    refine bodyPost_ret (v := Rd.val ⟨0, 0, 0, 0, 6⟩) (results13 ⟨0, 0, 0, 0, 6⟩ rfl rfl (setRow_heap _ _ _ _ _ _ (row_alloc (row_alloc hrow _) _))) rfl ⟨rfl, ?_⟩
    have hb3 : Below w.heap.size w w1 := ((Below.refl _ _).alloc (Nat.le_refl _) _).trans (HB1.out.mono (by simp))
    exact below_setRow ((hb3.alloc hb3.size _).alloc (by simp; omega) _) (Nat.le_refl _) _

set_option maxHeartbeats 800000 in
set_option maxRecDepth 20000 in
theorem read_k4s (b off n c i x : Nat) (w : World) (hG : Glob w) (hnc : n ≤ c) (hcm : c ≤ 9223372036854775807) (hx : x ≤ 40) (hk : opk x = 4) (hi : n = i + 1)
    (hc : w.cell? ⟨b, off + i, none⟩ = some (.int .u8 x)) :
    Calls Tryd.prog 13 #[.slice (some ⟨b, off, none⟩) n c, .int .i64 i] w fun e w' => e = .returned (Rd.val ⟨0, 0, 0, 0, 6⟩) ∧ Below w.heap.size w w' := by
  have hbl : b < w.heap.size := block_lt_of_cell hc
  have t1 : ((i : Int) == n) = false := by simp; omega
  have HK := Lib.hid hk
  have HG := Lib.hid hG
  have hne := nm_ne' x (by omega)
  have t2 : decide ((i : Int) < 0) = false := by simp
  have t3 : decide (n < i) = false := by simp; omega
  clear hk hG
  by_cases hcap : c = i + 1
  all_goals
    go_enter Tryd.func13, Tryd.ntmps13
    go_wp2_with (first | (go_at_call 44; refine (parts_k x 4 hx HK.out _ (HG.out.below ((Below.refl _ _).alloc (Nat.le_refl _) _))).mono ?_; rintro e w1 ⟨hb1, b2, off2, cap2, hb2, rfl, hcs⟩; obtain ⟨hcw, hfw⟩ := bcell hb1; have hz1 : w.heap.size + 1 ≤ w1.heap.size := (by have := hb1.size; simp at this; omega); have hrow := row_kept hb1 (heap_alloc_new w _); have HB1 := Lib.hid hb1; clear hb1; simp only [ksK, List.length_nil, List.length_cons, Nat.zero_add, Nat.reduceAdd]; have hk0 : w1.cell? ⟨b2, off2, none⟩ = some (.string ⟨#[117]⟩) := hcs 0 _ rfl; have hb2l0 : b2 < w1.heap.size := block_lt_of_cell hk0; have hk1 : w1.cell? ⟨b2, off2 + 1, none⟩ = some (.string ⟨#[117]⟩) := hcs 1 _ rfl; have hb2l1 : b2 < w1.heap.size := block_lt_of_cell hk1; clear hcs) | fail)
    refine wp_loop_rounds 3 ?_
    rw [rounds_succ]
    go_wp2_with (first | (go_at_call 45; refine (operand_short 1 _ _ _ _ (by first | (simp [szK]; done) | (simp [szK]; omega)) (by simp)).mono ?_; rintro e w2 ⟨rfl, rfl⟩) | (refine wpList_store_row rfl 25 _ _ rfl w.heap.size #[.int .i64 0, .int .i64 0, .int .i64 0, .int .i64 0] rfl rfl 25 _ (row_alloc (row_alloc hrow _) _) (by kernel_rfl) (by rfl) (all4 _ _ _ _) ?_))
    refine bodyPost_ret (v := Rd.val ⟨0, 0, 0, 0, 6⟩) (results13 ⟨0, 0, 0, 0, 6⟩ rfl rfl (setRow_heap _ _ _ _ _ _ (row_alloc (row_alloc hrow _) _))) rfl ⟨rfl, ?_⟩
    have hb3 : Below w.heap.size w w1 := ((Below.refl _ _).alloc (Nat.le_refl _) _).trans (HB1.out.mono (by simp))
    exact below_setRow ((hb3.alloc hb3.size _).alloc (by simp; omega) _) (Nat.le_refl _) _

set_option maxHeartbeats 800000 in
set_option maxRecDepth 20000 in
theorem read_k4t (b off n c i x : Nat) (y : Int) (w : World) (hG : Glob w) (hnc : n ≤ c) (hcm : c ≤ 9223372036854775807) (hx : x ≤ 40) (hk : opk x = 4) (hi : i + 1 < n) (hi2 : n ≤ i + 2) (by0 : 0 ≤ y) (by1 : y ≤ 255)
    (hc : w.cell? ⟨b, off + i, none⟩ = some (.int .u8 x)) (hc1 : w.cell? ⟨b, off + (i + 1), none⟩ = some (.int .u8 y)) :
    Calls Tryd.prog 13 #[.slice (some ⟨b, off, none⟩) n c, .int .i64 i] w fun e w' => e = .returned (Rd.val ⟨0, 0, 0, 0, 6⟩) ∧ Below w.heap.size w w' := by
  have hbl : b < w.heap.size := block_lt_of_cell hc
  have t1 : ((i : Int) == n) = false := by simp; omega
  have HK := Lib.hid hk
  have HG := Lib.hid hG
  have hne := nm_ne' x (by omega)
  have t2 : decide ((i : Int) < 0) = false := by simp
  have t3 : decide (n < i) = false := by simp; omega
  clear hk hG
  go_enter Tryd.func13, Tryd.ntmps13
  go_wp2_with (first | (go_at_call 44; refine (parts_k x 4 hx HK.out _ (HG.out.below ((Below.refl _ _).alloc (Nat.le_refl _) _))).mono ?_; rintro e w1 ⟨hb1, b2, off2, cap2, hb2, rfl, hcs⟩; obtain ⟨hcw, hfw⟩ := bcell hb1; have hz1 : w.heap.size + 1 ≤ w1.heap.size := (by have := hb1.size; simp at this; omega); have hrow := row_kept hb1 (heap_alloc_new w _); have HB1 := Lib.hid hb1; clear hb1; simp only [ksK, List.length_nil, List.length_cons, Nat.zero_add, Nat.reduceAdd]; have hk0 : w1.cell? ⟨b2, off2, none⟩ = some (.string ⟨#[117]⟩) := hcs 0 _ rfl; have hb2l0 : b2 < w1.heap.size := block_lt_of_cell hk0; have hk1 : w1.cell? ⟨b2, off2 + 1, none⟩ = some (.string ⟨#[117]⟩) := hcs 1 _ rfl; have hb2l1 : b2 < w1.heap.size := block_lt_of_cell hk1; clear hcs) | fail)
  refine wp_loop_rounds 3 ?_
  rw [rounds_succ]
  have HY0_0 := Lib.hid (cell_al (cell_al (cell_be HB1.out (cell_al hc1 _)) (.cells #[.int .i64 x, .int .i64 0, .int .i64 0, .int .i64 1] 25)) (.cells #[.int .i64 0, .int .i64 0] 103))
  go_wp2_with (first | (go_at_call 45; refine (operand_u b (off + (i + 1)) (n - (i + 1)) (c - (i + 1)) y _ (by omega) by0 by1 HY0_0.out).mono ?_; rintro e w2 ⟨rfl, rfl⟩) | fail)
  by_cases hcap : c = i + 2
  all_goals
    rw [rounds_succ]
    go_wp2_with (first | (go_at_call 45; refine (operand_short 1 _ _ _ _ (by first | (simp [szK]; done) | (simp [szK]; omega)) (by simp)).mono ?_; rintro e w2 ⟨rfl, rfl⟩) | (refine wpList_store_row rfl 25 _ _ rfl w.heap.size #[.int .i64 0, .int .i64 0, .int .i64 0, .int .i64 0] rfl rfl 25 _ (row_alloc (row_alloc hrow _) _) (by kernel_rfl) (by rfl) (all4 _ _ _ _) ?_))
    refine bodyPost_ret (v := Rd.val ⟨0, 0, 0, 0, 6⟩) (results13 ⟨0, 0, 0, 0, 6⟩ rfl rfl (setRow_heap _ _ _ _ _ _ (row_alloc (row_alloc hrow _) _))) rfl ⟨rfl, ?_⟩
    have hb3 : Below w.heap.size w w1 := ((Below.refl _ _).alloc (Nat.le_refl _) _).trans (HB1.out.mono (by simp))
    exact below_setRow ((hb3.alloc hb3.size _).alloc (by simp; omega) _) (Nat.le_refl _) _

end Go.Proofs.YtkphijabhoppnaaDoor
