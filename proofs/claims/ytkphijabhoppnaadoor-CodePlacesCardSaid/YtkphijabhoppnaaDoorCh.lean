/- A bytecode written (brazier/code.Write): the ways. -/
import Derived.Test.YtkphijabhoppnaaDoorCg
namespace Go.Proofs.YtkphijabhoppnaaDoor
open Go.RowKit Go.Proofs.YtkphijabhoppnaaDoorW.PrintWords
set_option linter.unusedSimpArgs false
set_option linter.unusedVariables false
theorem ne_own {v v1 : Value} {N q x : Nat} (h : v1.ownBlock = v.ownBlock ∨ ∃ b, v1.ownBlock = some b ∧ N ≤ b) (hv : v.ownBlock = some q) (hW : q + 2 ≤ N) (hx : x < q ∨ x = q + 1) : some x ≠ v1.ownBlock := by
  rcases h with h | ⟨b, h, hb⟩
  · rw [h, hv]; simp; omega
  · rw [h]; simp; omega
theorem ne_own2 {v v1 : Value} {N x : Nat} (h : v1.ownBlock = v.ownBlock ∨ ∃ b, v1.ownBlock = some b ∧ N ≤ b) (hv : some x ≠ v.ownBlock) (hW : x < N) : some x ≠ v1.ownBlock := by
  rcases h with h | ⟨b, h, hb⟩
  · rw [h]; exact hv
  · rw [h]; simp; omega

set_option maxHeartbeats 800000 in
set_option maxRecDepth 20000 in
theorem write_0 (c : Nat) (a b s : Int) (w : World) (hG : Glob w) (hc : c ≤ 40) (hk : opk c = 0) :
    Calls Tryd.prog 21 #[.agg #[.int .i64 c, .int .i64 0, .int .i64 0, .int .i64 s]] w (WrPost w [(c : Int)] 0) := by
  have HK := Lib.hid hk
  have HG := Lib.hid hG
  have hne := nm_ne' c (by omega)
  clear hk hG
  go_enter Tryd.func21, Tryd.ntmps21
  go_wp2_with (first | (go_at_call 44; refine (parts_k c 0 hc HK.out _ (HG.out.below ((Below.refl _ _).alloc (Nat.le_refl _) _))).mono ?_; rintro e w1 ⟨hb1, b2, off2, cap2, hb2, rfl, hcs⟩; have hz1 : w.heap.size < w1.heap.size := (by have := hb1.size; simp at this; omega); have hrow := row_kept hb1 (heap_alloc_new w _); have hq0 := cell_of_row _ _ 0 _ _ _ hrow; have hq1 := cell_of_row _ _ 1 _ _ _ hrow; have hq2 := cell_of_row _ _ 2 _ _ _ hrow; simp at hq0 hq1 hq2; have HR := Lib.hid hrow; clear hrow; have HB1 := Lib.hid hb1; clear hb1; simp only [ksK, List.length_nil, List.length_cons, Nat.zero_add, Nat.reduceAdd]; clear hcs) | fail)
  have hb3 : Below w.heap.size w w1 := ((Below.refl _ _).alloc (Nat.le_refl _) _).trans (HB1.out.mono (by simp))
  have HB3 := Lib.hid hb3
  clear hb3
  refine wp_loop_rounds 3 ?_
  rw [rounds_succ]
  go_wp2_with fail
  rw [rounds_succ]
  go_wp2_with fail
  rw [rounds_succ]
  go_wp2_with fail
  go_ret2
  exact ⟨_, rfl, (own_one w1 w.heap.size c (Nat.le_of_lt hz1)).alloc _, (HB3.out.alloc (Nat.le_of_lt hz1) _).alloc (by simp; omega) _⟩

set_option maxHeartbeats 800000 in
set_option maxRecDepth 20000 in
theorem write_0a (c : Nat) (a b s : Int) (w : World) (hG : Glob w) (hc : c ≤ 40) (hk : opk c = 0) (ha : a ≠ 0) :
    Calls Tryd.prog 21 #[.agg #[.int .i64 c, .int .i64 a, .int .i64 b, .int .i64 s]] w (WrPost w [] 1) := by
  have HK := Lib.hid hk
  have HG := Lib.hid hG
  have hne := nm_ne' c (by omega)
  have hna : (a != 0) = true := by simpa using ha
  have hea : (a == 0) = false := by simpa using ha
  clear ha
  clear hk hG
  go_enter Tryd.func21, Tryd.ntmps21
  go_wp2_with (first | (go_at_call 44; refine (parts_k c 0 hc HK.out _ (HG.out.below ((Below.refl _ _).alloc (Nat.le_refl _) _))).mono ?_; rintro e w1 ⟨hb1, b2, off2, cap2, hb2, rfl, hcs⟩; have hz1 : w.heap.size < w1.heap.size := (by have := hb1.size; simp at this; omega); have hrow := row_kept hb1 (heap_alloc_new w _); have hq0 := cell_of_row _ _ 0 _ _ _ hrow; have hq1 := cell_of_row _ _ 1 _ _ _ hrow; have hq2 := cell_of_row _ _ 2 _ _ _ hrow; simp at hq0 hq1 hq2; have HR := Lib.hid hrow; clear hrow; have HB1 := Lib.hid hb1; clear hb1; simp only [ksK, List.length_nil, List.length_cons, Nat.zero_add, Nat.reduceAdd]; clear hcs) | fail)
  have hb3 : Below w.heap.size w w1 := ((Below.refl _ _).alloc (Nat.le_refl _) _).trans (HB1.out.mono (by simp))
  have HB3 := Lib.hid hb3
  clear hb3
  refine wp_loop_rounds 3 ?_
  rw [rounds_succ]
  go_wp2_with fail
  go_ret2
  exact ⟨_, rfl, own_nil _ _ _ _, (HB3.out.alloc (Nat.le_of_lt hz1) _).alloc (by simp; omega) _⟩

set_option maxHeartbeats 800000 in
set_option maxRecDepth 20000 in
theorem write_0b (c : Nat) (a b s : Int) (w : World) (hG : Glob w) (hc : c ≤ 40) (hk : opk c = 0) (hb : b ≠ 0) :
    Calls Tryd.prog 21 #[.agg #[.int .i64 c, .int .i64 0, .int .i64 b, .int .i64 s]] w (WrPost w [] 1) := by
  have HK := Lib.hid hk
  have HG := Lib.hid hG
  have hne := nm_ne' c (by omega)
  have hnb : (b != 0) = true := by simpa using hb
  have heb : (b == 0) = false := by simpa using hb
  clear hb
  clear hk hG
  go_enter Tryd.func21, Tryd.ntmps21
  go_wp2_with (first | (go_at_call 44; refine (parts_k c 0 hc HK.out _ (HG.out.below ((Below.refl _ _).alloc (Nat.le_refl _) _))).mono ?_; rintro e w1 ⟨hb1, b2, off2, cap2, hb2, rfl, hcs⟩; have hz1 : w.heap.size < w1.heap.size := (by have := hb1.size; simp at this; omega); have hrow := row_kept hb1 (heap_alloc_new w _); have hq0 := cell_of_row _ _ 0 _ _ _ hrow; have hq1 := cell_of_row _ _ 1 _ _ _ hrow; have hq2 := cell_of_row _ _ 2 _ _ _ hrow; simp at hq0 hq1 hq2; have HR := Lib.hid hrow; clear hrow; have HB1 := Lib.hid hb1; clear hb1; simp only [ksK, List.length_nil, List.length_cons, Nat.zero_add, Nat.reduceAdd]; clear hcs) | fail)
  have hb3 : Below w.heap.size w w1 := ((Below.refl _ _).alloc (Nat.le_refl _) _).trans (HB1.out.mono (by simp))
  have HB3 := Lib.hid hb3
  clear hb3
  refine wp_loop_rounds 3 ?_
  rw [rounds_succ]
  go_wp2_with fail
  rw [rounds_succ]
  go_wp2_with fail
  go_ret2
  exact ⟨_, rfl, own_nil _ _ _ _, (HB3.out.alloc (Nat.le_of_lt hz1) _).alloc (by simp; omega) _⟩

set_option maxHeartbeats 800000 in
set_option maxRecDepth 20000 in
theorem write_1 (c : Nat) (a b s : Int) (w : World) (hG : Glob w) (hc : c ≤ 40) (hk : opk c = 1) (ha : inR 1 a) :
    Calls Tryd.prog 21 #[.agg #[.int .i64 c, .int .i64 a, .int .i64 0, .int .i64 s]] w (WrPost w [(c : Int), a] 0) := by
  have HK := Lib.hid hk
  have HG := Lib.hid hG
  have hne := nm_ne' c (by omega)
  have hma : decide (inR 1 a) = true := decide_eq_true ha
  have ha0 : 0 ≤ a := ha.1
  have ha1 : a ≤ 255 := ha.2
  clear ha
  clear hk hG
  go_enter Tryd.func21, Tryd.ntmps21
  go_wp2_with (first | (go_at_call 44; refine (parts_k c 1 hc HK.out _ (HG.out.below ((Below.refl _ _).alloc (Nat.le_refl _) _))).mono ?_; rintro e w1 ⟨hb1, b2, off2, cap2, hb2, rfl, hcs⟩; have hz1 : w.heap.size < w1.heap.size := (by have := hb1.size; simp at this; omega); have hrow := row_kept hb1 (heap_alloc_new w _); have hq0 := cell_of_row _ _ 0 _ _ _ hrow; have hq1 := cell_of_row _ _ 1 _ _ _ hrow; have hq2 := cell_of_row _ _ 2 _ _ _ hrow; simp at hq0 hq1 hq2; have HR := Lib.hid hrow; clear hrow; have HB1 := Lib.hid hb1; clear hb1; simp only [ksK, List.length_nil, List.length_cons, Nat.zero_add, Nat.reduceAdd]; have hk0 : w1.cell? ⟨b2, off2, none⟩ = some (.string ⟨#[117]⟩) := hcs 0 _ rfl; have hb2l0 : b2 < w1.heap.size := block_lt_of_cell hk0; clear hcs) | fail)
  have hb3 : Below w.heap.size w w1 := ((Below.refl _ _).alloc (Nat.le_refl _) _).trans (HB1.out.mono (by simp))
  have HB3 := Lib.hid hb3
  clear hb3
  refine wp_loop_rounds 3 ?_
  rw [rounds_succ]
  go_wp2_with (first | (go_at_call 53; refine (may_u a _).mono ?_; rintro e w2 ⟨rfl, rfl⟩) | (at_builtin; refine app1 (w0 := w) w.heap.size rfl _ _ 22 5 .u8 1 rfl Tryd.underlying22 info5 (by decide) _ [(c : Int)] a rfl _ rfl ?h0 ?h1 ?h2 ?h3 ?h4 ?h5) | fail)
  case h0 => simp
  case h1 => exact (own_one w1 w.heap.size c (Nat.le_of_lt hz1)).alloc _
  case h2 => exact (HB3.out.alloc (Nat.le_of_lt hz1) _).alloc (by simp; omega) _
  case h3 => simp; omega
  case h4 => simp
  case h5 =>
    intro v3 w3 ho3 hB3 hg3 hat3
    have hne3 : ∀ x, x < w1.heap.size ∨ x = w1.heap.size + 1 → some x ≠ v3.ownBlock := fun x hx => ne_own (q := w1.heap.size) hat3 rfl (by omega) hx
    have hz3 : w1.heap.size + 2 ≤ w3.heap.size := by have := hg3.size; simp at this; omega
    have hk3_0 : w3.cell? ⟨b2, off2, none⟩ = some (.string ⟨#[117]⟩) := cell_gr hg3 (by simp [Value.ownBlock]; omega) (cell_al (cell_al hk0 _) _)
    have hx3 : w3.cell? ⟨w1.heap.size + 1, 1, none⟩ = some (.int .i64 0) := cell_gr hg3 (by simp [Value.ownBlock]) (cell_of_row _ _ 1 _ _ _ (heap_alloc2_new w1 _ _))
    have HO3 := Lib.hid ho3; clear ho3
    have HB3' := Lib.hid hB3; clear hB3; clear hg3 hat3
    have HN3 := Lib.hid hne3; clear hne3; have HZ3 := Lib.hid hz3; clear hz3
    go_wp2_with fail
    rw [rounds_succ]
    go_wp2_with fail
    rw [rounds_succ]
    go_wp2_with fail
    go_ret2
    exact ⟨_, rfl, HO3.out, HB3'.out⟩

set_option maxHeartbeats 800000 in
set_option maxRecDepth 20000 in
theorem write_1a (c : Nat) (a b s : Int) (w : World) (hG : Glob w) (hc : c ≤ 40) (hk : opk c = 1) (ha : ¬ inR 1 a) :
    Calls Tryd.prog 21 #[.agg #[.int .i64 c, .int .i64 a, .int .i64 b, .int .i64 s]] w (WrPost w [] 1) := by
  have HK := Lib.hid hk
  have HG := Lib.hid hG
  have hne := nm_ne' c (by omega)
  have hma : decide (inR 1 a) = false := decide_eq_false ha
  clear ha
  clear hk hG
  go_enter Tryd.func21, Tryd.ntmps21
  go_wp2_with (first | (go_at_call 44; refine (parts_k c 1 hc HK.out _ (HG.out.below ((Below.refl _ _).alloc (Nat.le_refl _) _))).mono ?_; rintro e w1 ⟨hb1, b2, off2, cap2, hb2, rfl, hcs⟩; have hz1 : w.heap.size < w1.heap.size := (by have := hb1.size; simp at this; omega); have hrow := row_kept hb1 (heap_alloc_new w _); have hq0 := cell_of_row _ _ 0 _ _ _ hrow; have hq1 := cell_of_row _ _ 1 _ _ _ hrow; have hq2 := cell_of_row _ _ 2 _ _ _ hrow; simp at hq0 hq1 hq2; have HR := Lib.hid hrow; clear hrow; have HB1 := Lib.hid hb1; clear hb1; simp only [ksK, List.length_nil, List.length_cons, Nat.zero_add, Nat.reduceAdd]; have hk0 : w1.cell? ⟨b2, off2, none⟩ = some (.string ⟨#[117]⟩) := hcs 0 _ rfl; have hb2l0 : b2 < w1.heap.size := block_lt_of_cell hk0; clear hcs) | fail)
  have hb3 : Below w.heap.size w w1 := ((Below.refl _ _).alloc (Nat.le_refl _) _).trans (HB1.out.mono (by simp))
  have HB3 := Lib.hid hb3
  clear hb3
  refine wp_loop_rounds 3 ?_
  rw [rounds_succ]
  go_wp2_with (first | (go_at_call 53; refine (may_u a _).mono ?_; rintro e w2 ⟨rfl, rfl⟩) | fail)
  go_ret2
  exact ⟨_, rfl, own_nil _ _ _ _, (HB3.out.alloc (Nat.le_of_lt hz1) _).alloc (by simp; omega) _⟩

set_option maxHeartbeats 800000 in
set_option maxRecDepth 20000 in
theorem write_1b (c : Nat) (a b s : Int) (w : World) (hG : Glob w) (hc : c ≤ 40) (hk : opk c = 1) (ha : inR 1 a) (hb : b ≠ 0) :
    Calls Tryd.prog 21 #[.agg #[.int .i64 c, .int .i64 a, .int .i64 b, .int .i64 s]] w (WrPost w [] 1) := by
  have HK := Lib.hid hk
  have HG := Lib.hid hG
  have hne := nm_ne' c (by omega)
  have hma : decide (inR 1 a) = true := decide_eq_true ha
  have ha0 : 0 ≤ a := ha.1
  have ha1 : a ≤ 255 := ha.2
  clear ha
  have hnb : (b != 0) = true := by simpa using hb
  have heb : (b == 0) = false := by simpa using hb
  clear hb
  clear hk hG
  go_enter Tryd.func21, Tryd.ntmps21
  go_wp2_with (first | (go_at_call 44; refine (parts_k c 1 hc HK.out _ (HG.out.below ((Below.refl _ _).alloc (Nat.le_refl _) _))).mono ?_; rintro e w1 ⟨hb1, b2, off2, cap2, hb2, rfl, hcs⟩; have hz1 : w.heap.size < w1.heap.size := (by have := hb1.size; simp at this; omega); have hrow := row_kept hb1 (heap_alloc_new w _); have hq0 := cell_of_row _ _ 0 _ _ _ hrow; have hq1 := cell_of_row _ _ 1 _ _ _ hrow; have hq2 := cell_of_row _ _ 2 _ _ _ hrow; simp at hq0 hq1 hq2; have HR := Lib.hid hrow; clear hrow; have HB1 := Lib.hid hb1; clear hb1; simp only [ksK, List.length_nil, List.length_cons, Nat.zero_add, Nat.reduceAdd]; have hk0 : w1.cell? ⟨b2, off2, none⟩ = some (.string ⟨#[117]⟩) := hcs 0 _ rfl; have hb2l0 : b2 < w1.heap.size := block_lt_of_cell hk0; clear hcs) | fail)
  have hb3 : Below w.heap.size w w1 := ((Below.refl _ _).alloc (Nat.le_refl _) _).trans (HB1.out.mono (by simp))
  have HB3 := Lib.hid hb3
  clear hb3
  refine wp_loop_rounds 3 ?_
  rw [rounds_succ]
  go_wp2_with (first | (go_at_call 53; refine (may_u a _).mono ?_; rintro e w2 ⟨rfl, rfl⟩) | (at_builtin; refine app1 (w0 := w) w.heap.size rfl _ _ 22 5 .u8 1 rfl Tryd.underlying22 info5 (by decide) _ [(c : Int)] a rfl _ rfl ?h0 ?h1 ?h2 ?h3 ?h4 ?h5) | fail)
  case h0 => simp
  case h1 => exact (own_one w1 w.heap.size c (Nat.le_of_lt hz1)).alloc _
  case h2 => exact (HB3.out.alloc (Nat.le_of_lt hz1) _).alloc (by simp; omega) _
  case h3 => simp; omega
  case h4 => simp
  case h5 =>
    intro v3 w3 ho3 hB3 hg3 hat3
    have hne3 : ∀ x, x < w1.heap.size ∨ x = w1.heap.size + 1 → some x ≠ v3.ownBlock := fun x hx => ne_own (q := w1.heap.size) hat3 rfl (by omega) hx
    have hz3 : w1.heap.size + 2 ≤ w3.heap.size := by have := hg3.size; simp at this; omega
    have hk3_0 : w3.cell? ⟨b2, off2, none⟩ = some (.string ⟨#[117]⟩) := cell_gr hg3 (by simp [Value.ownBlock]; omega) (cell_al (cell_al hk0 _) _)
    have hx3 : w3.cell? ⟨w1.heap.size + 1, 1, none⟩ = some (.int .i64 b) := cell_gr hg3 (by simp [Value.ownBlock]) (cell_of_row _ _ 1 _ _ _ (heap_alloc2_new w1 _ _))
    have HO3 := Lib.hid ho3; clear ho3
    have HB3' := Lib.hid hB3; clear hB3; clear hg3 hat3
    have HN3 := Lib.hid hne3; clear hne3; have HZ3 := Lib.hid hz3; clear hz3
    go_wp2_with fail
    rw [rounds_succ]
    go_wp2_with fail
    go_ret2
    exact ⟨_, rfl, own_nil _ _ _ _, HB3'.out⟩

set_option maxHeartbeats 800000 in
set_option maxRecDepth 20000 in
theorem write_2 (c : Nat) (a b s : Int) (w : World) (hG : Glob w) (hc : c ≤ 40) (hk : opk c = 2) (ha : inR 2 a) :
    Calls Tryd.prog 21 #[.agg #[.int .i64 c, .int .i64 a, .int .i64 0, .int .i64 s]] w (WrPost w [(c : Int), IntKind.u8.wrap a] 0) := by
  have HK := Lib.hid hk
  have HG := Lib.hid hG
  have hne := nm_ne' c (by omega)
  have hma : decide (inR 2 a) = true := decide_eq_true ha
  have ha0 : -128 ≤ a := ha.1
  have ha1 : a ≤ 127 := ha.2
  clear ha
  clear hk hG
  go_enter Tryd.func21, Tryd.ntmps21
  go_wp2_with (first | (go_at_call 44; refine (parts_k c 2 hc HK.out _ (HG.out.below ((Below.refl _ _).alloc (Nat.le_refl _) _))).mono ?_; rintro e w1 ⟨hb1, b2, off2, cap2, hb2, rfl, hcs⟩; have hz1 : w.heap.size < w1.heap.size := (by have := hb1.size; simp at this; omega); have hrow := row_kept hb1 (heap_alloc_new w _); have hq0 := cell_of_row _ _ 0 _ _ _ hrow; have hq1 := cell_of_row _ _ 1 _ _ _ hrow; have hq2 := cell_of_row _ _ 2 _ _ _ hrow; simp at hq0 hq1 hq2; have HR := Lib.hid hrow; clear hrow; have HB1 := Lib.hid hb1; clear hb1; simp only [ksK, List.length_nil, List.length_cons, Nat.zero_add, Nat.reduceAdd]; have hk0 : w1.cell? ⟨b2, off2, none⟩ = some (.string ⟨#[115]⟩) := hcs 0 _ rfl; have hb2l0 : b2 < w1.heap.size := block_lt_of_cell hk0; clear hcs) | fail)
  have hb3 : Below w.heap.size w w1 := ((Below.refl _ _).alloc (Nat.le_refl _) _).trans (HB1.out.mono (by simp))
  have HB3 := Lib.hid hb3
  clear hb3
  refine wp_loop_rounds 3 ?_
  rw [rounds_succ]
  go_wp2_with (first | (go_at_call 53; refine (may_s a _).mono ?_; rintro e w2 ⟨rfl, rfl⟩) | (at_builtin; refine app1 (w0 := w) w.heap.size rfl _ _ 22 5 .u8 1 rfl Tryd.underlying22 info5 (by decide) _ [(c : Int)] (IntKind.u8.wrap a) rfl _ rfl ?h0 ?h1 ?h2 ?h3 ?h4 ?h5) | fail)
  case h0 => simp
  case h1 => exact (own_one w1 w.heap.size c (Nat.le_of_lt hz1)).alloc _
  case h2 => exact (HB3.out.alloc (Nat.le_of_lt hz1) _).alloc (by simp; omega) _
  case h3 => simp; omega
  case h4 => simp
  case h5 =>
    intro v3 w3 ho3 hB3 hg3 hat3
    have hne3 : ∀ x, x < w1.heap.size ∨ x = w1.heap.size + 1 → some x ≠ v3.ownBlock := fun x hx => ne_own (q := w1.heap.size) hat3 rfl (by omega) hx
    have hz3 : w1.heap.size + 2 ≤ w3.heap.size := by have := hg3.size; simp at this; omega
    have hk3_0 : w3.cell? ⟨b2, off2, none⟩ = some (.string ⟨#[115]⟩) := cell_gr hg3 (by simp [Value.ownBlock]; omega) (cell_al (cell_al hk0 _) _)
    have hx3 : w3.cell? ⟨w1.heap.size + 1, 1, none⟩ = some (.int .i64 0) := cell_gr hg3 (by simp [Value.ownBlock]) (cell_of_row _ _ 1 _ _ _ (heap_alloc2_new w1 _ _))
    have HO3 := Lib.hid ho3; clear ho3
    have HB3' := Lib.hid hB3; clear hB3; clear hg3 hat3
    have HN3 := Lib.hid hne3; clear hne3; have HZ3 := Lib.hid hz3; clear hz3
    go_wp2_with fail
    rw [rounds_succ]
    go_wp2_with fail
    rw [rounds_succ]
    go_wp2_with fail
    go_ret2
    exact ⟨_, rfl, HO3.out, HB3'.out⟩

set_option maxHeartbeats 800000 in
set_option maxRecDepth 20000 in
theorem write_2a (c : Nat) (a b s : Int) (w : World) (hG : Glob w) (hc : c ≤ 40) (hk : opk c = 2) (ha : ¬ inR 2 a) :
    Calls Tryd.prog 21 #[.agg #[.int .i64 c, .int .i64 a, .int .i64 b, .int .i64 s]] w (WrPost w [] 1) := by
  have HK := Lib.hid hk
  have HG := Lib.hid hG
  have hne := nm_ne' c (by omega)
  have hma : decide (inR 2 a) = false := decide_eq_false ha
  clear ha
  clear hk hG
  go_enter Tryd.func21, Tryd.ntmps21
  go_wp2_with (first | (go_at_call 44; refine (parts_k c 2 hc HK.out _ (HG.out.below ((Below.refl _ _).alloc (Nat.le_refl _) _))).mono ?_; rintro e w1 ⟨hb1, b2, off2, cap2, hb2, rfl, hcs⟩; have hz1 : w.heap.size < w1.heap.size := (by have := hb1.size; simp at this; omega); have hrow := row_kept hb1 (heap_alloc_new w _); have hq0 := cell_of_row _ _ 0 _ _ _ hrow; have hq1 := cell_of_row _ _ 1 _ _ _ hrow; have hq2 := cell_of_row _ _ 2 _ _ _ hrow; simp at hq0 hq1 hq2; have HR := Lib.hid hrow; clear hrow; have HB1 := Lib.hid hb1; clear hb1; simp only [ksK, List.length_nil, List.length_cons, Nat.zero_add, Nat.reduceAdd]; have hk0 : w1.cell? ⟨b2, off2, none⟩ = some (.string ⟨#[115]⟩) := hcs 0 _ rfl; have hb2l0 : b2 < w1.heap.size := block_lt_of_cell hk0; clear hcs) | fail)
  have hb3 : Below w.heap.size w w1 := ((Below.refl _ _).alloc (Nat.le_refl _) _).trans (HB1.out.mono (by simp))
  have HB3 := Lib.hid hb3
  clear hb3
  refine wp_loop_rounds 3 ?_
  rw [rounds_succ]
  go_wp2_with (first | (go_at_call 53; refine (may_s a _).mono ?_; rintro e w2 ⟨rfl, rfl⟩) | fail)
  go_ret2
  exact ⟨_, rfl, own_nil _ _ _ _, (HB3.out.alloc (Nat.le_of_lt hz1) _).alloc (by simp; omega) _⟩

set_option maxHeartbeats 800000 in
set_option maxRecDepth 20000 in
theorem write_2b (c : Nat) (a b s : Int) (w : World) (hG : Glob w) (hc : c ≤ 40) (hk : opk c = 2) (ha : inR 2 a) (hb : b ≠ 0) :
    Calls Tryd.prog 21 #[.agg #[.int .i64 c, .int .i64 a, .int .i64 b, .int .i64 s]] w (WrPost w [] 1) := by
  have HK := Lib.hid hk
  have HG := Lib.hid hG
  have hne := nm_ne' c (by omega)
  have hma : decide (inR 2 a) = true := decide_eq_true ha
  have ha0 : -128 ≤ a := ha.1
  have ha1 : a ≤ 127 := ha.2
  clear ha
  have hnb : (b != 0) = true := by simpa using hb
  have heb : (b == 0) = false := by simpa using hb
  clear hb
  clear hk hG
  go_enter Tryd.func21, Tryd.ntmps21
  go_wp2_with (first | (go_at_call 44; refine (parts_k c 2 hc HK.out _ (HG.out.below ((Below.refl _ _).alloc (Nat.le_refl _) _))).mono ?_; rintro e w1 ⟨hb1, b2, off2, cap2, hb2, rfl, hcs⟩; have hz1 : w.heap.size < w1.heap.size := (by have := hb1.size; simp at this; omega); have hrow := row_kept hb1 (heap_alloc_new w _); have hq0 := cell_of_row _ _ 0 _ _ _ hrow; have hq1 := cell_of_row _ _ 1 _ _ _ hrow; have hq2 := cell_of_row _ _ 2 _ _ _ hrow; simp at hq0 hq1 hq2; have HR := Lib.hid hrow; clear hrow; have HB1 := Lib.hid hb1; clear hb1; simp only [ksK, List.length_nil, List.length_cons, Nat.zero_add, Nat.reduceAdd]; have hk0 : w1.cell? ⟨b2, off2, none⟩ = some (.string ⟨#[115]⟩) := hcs 0 _ rfl; have hb2l0 : b2 < w1.heap.size := block_lt_of_cell hk0; clear hcs) | fail)
  have hb3 : Below w.heap.size w w1 := ((Below.refl _ _).alloc (Nat.le_refl _) _).trans (HB1.out.mono (by simp))
  have HB3 := Lib.hid hb3
  clear hb3
  refine wp_loop_rounds 3 ?_
  rw [rounds_succ]
  go_wp2_with (first | (go_at_call 53; refine (may_s a _).mono ?_; rintro e w2 ⟨rfl, rfl⟩) | (at_builtin; refine app1 (w0 := w) w.heap.size rfl _ _ 22 5 .u8 1 rfl Tryd.underlying22 info5 (by decide) _ [(c : Int)] (IntKind.u8.wrap a) rfl _ rfl ?h0 ?h1 ?h2 ?h3 ?h4 ?h5) | fail)
  case h0 => simp
  case h1 => exact (own_one w1 w.heap.size c (Nat.le_of_lt hz1)).alloc _
  case h2 => exact (HB3.out.alloc (Nat.le_of_lt hz1) _).alloc (by simp; omega) _
  case h3 => simp; omega
  case h4 => simp
  case h5 =>
    intro v3 w3 ho3 hB3 hg3 hat3
    have hne3 : ∀ x, x < w1.heap.size ∨ x = w1.heap.size + 1 → some x ≠ v3.ownBlock := fun x hx => ne_own (q := w1.heap.size) hat3 rfl (by omega) hx
    have hz3 : w1.heap.size + 2 ≤ w3.heap.size := by have := hg3.size; simp at this; omega
    have hk3_0 : w3.cell? ⟨b2, off2, none⟩ = some (.string ⟨#[115]⟩) := cell_gr hg3 (by simp [Value.ownBlock]; omega) (cell_al (cell_al hk0 _) _)
    have hx3 : w3.cell? ⟨w1.heap.size + 1, 1, none⟩ = some (.int .i64 b) := cell_gr hg3 (by simp [Value.ownBlock]) (cell_of_row _ _ 1 _ _ _ (heap_alloc2_new w1 _ _))
    have HO3 := Lib.hid ho3; clear ho3
    have HB3' := Lib.hid hB3; clear hB3; clear hg3 hat3
    have HN3 := Lib.hid hne3; clear hne3; have HZ3 := Lib.hid hz3; clear hz3
    go_wp2_with fail
    rw [rounds_succ]
    go_wp2_with fail
    go_ret2
    exact ⟨_, rfl, own_nil _ _ _ _, HB3'.out⟩

set_option maxHeartbeats 800000 in
set_option maxRecDepth 20000 in
theorem write_3 (c : Nat) (a b s : Int) (w : World) (hG : Glob w) (hc : c ≤ 40) (hk : opk c = 3) (ha : inR 3 a) :
    Calls Tryd.prog 21 #[.agg #[.int .i64 c, .int .i64 a, .int .i64 0, .int .i64 s]] w (WrPost w [(c : Int), IntKind.u8.wrap a, IntKind.u8.wrap (a / 256)] 0) := by
  have HK := Lib.hid hk
  have HG := Lib.hid hG
  have hne := nm_ne' c (by omega)
  have hma : decide (inR 3 a) = true := decide_eq_true ha
  have ha0 : -32768 ≤ a := ha.1
  have ha1 : a < 32768 := ha.2
  clear ha
  clear hk hG
  go_enter Tryd.func21, Tryd.ntmps21
  go_wp2_with (first | (go_at_call 44; refine (parts_k c 3 hc HK.out _ (HG.out.below ((Below.refl _ _).alloc (Nat.le_refl _) _))).mono ?_; rintro e w1 ⟨hb1, b2, off2, cap2, hb2, rfl, hcs⟩; have hz1 : w.heap.size < w1.heap.size := (by have := hb1.size; simp at this; omega); have hrow := row_kept hb1 (heap_alloc_new w _); have hq0 := cell_of_row _ _ 0 _ _ _ hrow; have hq1 := cell_of_row _ _ 1 _ _ _ hrow; have hq2 := cell_of_row _ _ 2 _ _ _ hrow; simp at hq0 hq1 hq2; have HR := Lib.hid hrow; clear hrow; have HB1 := Lib.hid hb1; clear hb1; simp only [ksK, List.length_nil, List.length_cons, Nat.zero_add, Nat.reduceAdd]; have hk0 : w1.cell? ⟨b2, off2, none⟩ = some (.string ⟨#[111]⟩) := hcs 0 _ rfl; have hb2l0 : b2 < w1.heap.size := block_lt_of_cell hk0; clear hcs) | fail)
  have hb3 : Below w.heap.size w w1 := ((Below.refl _ _).alloc (Nat.le_refl _) _).trans (HB1.out.mono (by simp))
  have HB3 := Lib.hid hb3
  clear hb3
  refine wp_loop_rounds 3 ?_
  rw [rounds_succ]
  go_wp2_with (first | (go_at_call 53; refine (may_o a _).mono ?_; rintro e w2 ⟨rfl, rfl⟩) | (at_builtin; refine app1 (w0 := w) w.heap.size rfl _ _ 22 5 .u8 1 rfl Tryd.underlying22 info5 (by decide) _ [(c : Int)] (IntKind.u8.wrap a) rfl _ rfl ?h0 ?h1 ?h2 ?h3 ?h4 ?h5) | fail)
  case h0 => simp
  case h1 => exact (own_one w1 w.heap.size c (Nat.le_of_lt hz1)).alloc _
  case h2 => exact (HB3.out.alloc (Nat.le_of_lt hz1) _).alloc (by simp; omega) _
  case h3 => simp; omega
  case h4 => simp
  case h5 =>
    intro v3 w3 ho3 hB3 hg3 hat3
    have hne3 : ∀ x, x < w1.heap.size ∨ x = w1.heap.size + 1 → some x ≠ v3.ownBlock := fun x hx => ne_own (q := w1.heap.size) hat3 rfl (by omega) hx
    have hz3 : w1.heap.size + 2 ≤ w3.heap.size := by have := hg3.size; simp at this; omega
    have hk3_0 : w3.cell? ⟨b2, off2, none⟩ = some (.string ⟨#[111]⟩) := cell_gr hg3 (by simp [Value.ownBlock]; omega) (cell_al (cell_al hk0 _) _)
    have hx3 : w3.cell? ⟨w1.heap.size + 1, 1, none⟩ = some (.int .i64 0) := cell_gr hg3 (by simp [Value.ownBlock]) (cell_of_row _ _ 1 _ _ _ (heap_alloc2_new w1 _ _))
    have HO3 := Lib.hid ho3; clear ho3
    have HB3' := Lib.hid hB3; clear hB3; clear hg3 hat3
    have HN3 := Lib.hid hne3; clear hne3; have HZ3 := Lib.hid hz3; clear hz3
    go_wp2_with (first | (at_builtin; refine app1 (w0 := w) w.heap.size rfl _ _ 22 5 .u8 1 rfl Tryd.underlying22 info5 (by decide) _ [(c : Int), (IntKind.u8.wrap a)] (IntKind.u8.wrap (a / 256)) rfl _ rfl ?h0 ?h1 ?h2 ?h3 ?h4 ?h5) | fail)
    case h0 => simp
    case h1 => exact HO3.out
    case h2 => exact HB3'.out
    case h3 => exact HB3'.out.size
    case h4 => simp
    case h5 =>
      intro v4 w4 ho4 hB4 hg4 hat4
      have hne4 : ∀ x, x < w1.heap.size ∨ x = w1.heap.size + 1 → some x ≠ v4.ownBlock := fun x hx => ne_own2 hat4 (HN3.out x hx) (by have := HZ3.out; omega)
      have hz4 : w1.heap.size + 2 ≤ w4.heap.size := by have := hg4.size; have := HZ3.out; simp at *; omega
      have hk4_0 : w4.cell? ⟨b2, off2, none⟩ = some (.string ⟨#[111]⟩) := cell_gr hg4 (HN3.out _ (.inl hb2l0)) hk3_0
      have hx4 : w4.cell? ⟨w1.heap.size + 1, 1, none⟩ = some (.int .i64 0) := cell_gr hg4 (HN3.out _ (.inr rfl)) hx3
      have HO4 := Lib.hid ho4; clear ho4
      have HB4' := Lib.hid hB4; clear hB4; clear hg4 hat4
      have HN4 := Lib.hid hne4; clear hne4; have HZ4 := Lib.hid hz4; clear hz4
      clear hk3_0 hx3
      go_wp2_with fail
      rw [rounds_succ]
      go_wp2_with fail
      rw [rounds_succ]
      go_wp2_with fail
      go_ret2
      exact ⟨_, rfl, HO4.out, HB4'.out⟩

set_option maxHeartbeats 800000 in
set_option maxRecDepth 20000 in
theorem write_3b (c : Nat) (a b s : Int) (w : World) (hG : Glob w) (hc : c ≤ 40) (hk : opk c = 3) (ha : inR 3 a) (hb : b ≠ 0) :
    Calls Tryd.prog 21 #[.agg #[.int .i64 c, .int .i64 a, .int .i64 b, .int .i64 s]] w (WrPost w [] 1) := by
  have HK := Lib.hid hk
  have HG := Lib.hid hG
  have hne := nm_ne' c (by omega)
  have hma : decide (inR 3 a) = true := decide_eq_true ha
  have ha0 : -32768 ≤ a := ha.1
  have ha1 : a < 32768 := ha.2
  clear ha
  have hnb : (b != 0) = true := by simpa using hb
  have heb : (b == 0) = false := by simpa using hb
  clear hb
  clear hk hG
  go_enter Tryd.func21, Tryd.ntmps21
  go_wp2_with (first | (go_at_call 44; refine (parts_k c 3 hc HK.out _ (HG.out.below ((Below.refl _ _).alloc (Nat.le_refl _) _))).mono ?_; rintro e w1 ⟨hb1, b2, off2, cap2, hb2, rfl, hcs⟩; have hz1 : w.heap.size < w1.heap.size := (by have := hb1.size; simp at this; omega); have hrow := row_kept hb1 (heap_alloc_new w _); have hq0 := cell_of_row _ _ 0 _ _ _ hrow; have hq1 := cell_of_row _ _ 1 _ _ _ hrow; have hq2 := cell_of_row _ _ 2 _ _ _ hrow; simp at hq0 hq1 hq2; have HR := Lib.hid hrow; clear hrow; have HB1 := Lib.hid hb1; clear hb1; simp only [ksK, List.length_nil, List.length_cons, Nat.zero_add, Nat.reduceAdd]; have hk0 : w1.cell? ⟨b2, off2, none⟩ = some (.string ⟨#[111]⟩) := hcs 0 _ rfl; have hb2l0 : b2 < w1.heap.size := block_lt_of_cell hk0; clear hcs) | fail)
  have hb3 : Below w.heap.size w w1 := ((Below.refl _ _).alloc (Nat.le_refl _) _).trans (HB1.out.mono (by simp))
  have HB3 := Lib.hid hb3
  clear hb3
  refine wp_loop_rounds 3 ?_
  rw [rounds_succ]
  go_wp2_with (first | (go_at_call 53; refine (may_o a _).mono ?_; rintro e w2 ⟨rfl, rfl⟩) | (at_builtin; refine app1 (w0 := w) w.heap.size rfl _ _ 22 5 .u8 1 rfl Tryd.underlying22 info5 (by decide) _ [(c : Int)] (IntKind.u8.wrap a) rfl _ rfl ?h0 ?h1 ?h2 ?h3 ?h4 ?h5) | fail)
  case h0 => simp
  case h1 => exact (own_one w1 w.heap.size c (Nat.le_of_lt hz1)).alloc _
  case h2 => exact (HB3.out.alloc (Nat.le_of_lt hz1) _).alloc (by simp; omega) _
  case h3 => simp; omega
  case h4 => simp
  case h5 =>
    intro v3 w3 ho3 hB3 hg3 hat3
    have hne3 : ∀ x, x < w1.heap.size ∨ x = w1.heap.size + 1 → some x ≠ v3.ownBlock := fun x hx => ne_own (q := w1.heap.size) hat3 rfl (by omega) hx
    have hz3 : w1.heap.size + 2 ≤ w3.heap.size := by have := hg3.size; simp at this; omega
    have hk3_0 : w3.cell? ⟨b2, off2, none⟩ = some (.string ⟨#[111]⟩) := cell_gr hg3 (by simp [Value.ownBlock]; omega) (cell_al (cell_al hk0 _) _)
    have hx3 : w3.cell? ⟨w1.heap.size + 1, 1, none⟩ = some (.int .i64 b) := cell_gr hg3 (by simp [Value.ownBlock]) (cell_of_row _ _ 1 _ _ _ (heap_alloc2_new w1 _ _))
    have HO3 := Lib.hid ho3; clear ho3
    have HB3' := Lib.hid hB3; clear hB3; clear hg3 hat3
    have HN3 := Lib.hid hne3; clear hne3; have HZ3 := Lib.hid hz3; clear hz3
    go_wp2_with (first | (at_builtin; refine app1 (w0 := w) w.heap.size rfl _ _ 22 5 .u8 1 rfl Tryd.underlying22 info5 (by decide) _ [(c : Int), (IntKind.u8.wrap a)] (IntKind.u8.wrap (a / 256)) rfl _ rfl ?h0 ?h1 ?h2 ?h3 ?h4 ?h5) | fail)
    case h0 => simp
    case h1 => exact HO3.out
    case h2 => exact HB3'.out
    case h3 => exact HB3'.out.size
    case h4 => simp
    case h5 =>
      intro v4 w4 ho4 hB4 hg4 hat4
      have hne4 : ∀ x, x < w1.heap.size ∨ x = w1.heap.size + 1 → some x ≠ v4.ownBlock := fun x hx => ne_own2 hat4 (HN3.out x hx) (by have := HZ3.out; omega)
      have hz4 : w1.heap.size + 2 ≤ w4.heap.size := by have := hg4.size; have := HZ3.out; simp at *; omega
      have hk4_0 : w4.cell? ⟨b2, off2, none⟩ = some (.string ⟨#[111]⟩) := cell_gr hg4 (HN3.out _ (.inl hb2l0)) hk3_0
      have hx4 : w4.cell? ⟨w1.heap.size + 1, 1, none⟩ = some (.int .i64 b) := cell_gr hg4 (HN3.out _ (.inr rfl)) hx3
      have HO4 := Lib.hid ho4; clear ho4
      have HB4' := Lib.hid hB4; clear hB4; clear hg4 hat4
      have HN4 := Lib.hid hne4; clear hne4; have HZ4 := Lib.hid hz4; clear hz4
      clear hk3_0 hx3
      go_wp2_with fail
      rw [rounds_succ]
      go_wp2_with fail
      go_ret2
      exact ⟨_, rfl, own_nil _ _ _ _, HB4'.out⟩

set_option maxHeartbeats 800000 in
set_option maxRecDepth 20000 in
theorem write_4 (c : Nat) (a b s : Int) (w : World) (hG : Glob w) (hc : c ≤ 40) (hk : opk c = 4) (ha : inR 1 a) (hb : inR 1 b) :
    Calls Tryd.prog 21 #[.agg #[.int .i64 c, .int .i64 a, .int .i64 b, .int .i64 s]] w (WrPost w [(c : Int), a, b] 0) := by
  have HK := Lib.hid hk
  have HG := Lib.hid hG
  have hne := nm_ne' c (by omega)
  have hma : decide (inR 1 a) = true := decide_eq_true ha
  have ha0 : 0 ≤ a := ha.1
  have ha1 : a ≤ 255 := ha.2
  clear ha
  have hmb : decide (inR 1 b) = true := decide_eq_true hb
  have hb0 : 0 ≤ b := hb.1
  have hb1 : b ≤ 255 := hb.2
  clear hb
  clear hk hG
  go_enter Tryd.func21, Tryd.ntmps21
  go_wp2_with (first | (go_at_call 44; refine (parts_k c 4 hc HK.out _ (HG.out.below ((Below.refl _ _).alloc (Nat.le_refl _) _))).mono ?_; rintro e w1 ⟨hb1, b2, off2, cap2, hb2, rfl, hcs⟩; have hz1 : w.heap.size < w1.heap.size := (by have := hb1.size; simp at this; omega); have hrow := row_kept hb1 (heap_alloc_new w _); have hq0 := cell_of_row _ _ 0 _ _ _ hrow; have hq1 := cell_of_row _ _ 1 _ _ _ hrow; have hq2 := cell_of_row _ _ 2 _ _ _ hrow; simp at hq0 hq1 hq2; have HR := Lib.hid hrow; clear hrow; have HB1 := Lib.hid hb1; clear hb1; simp only [ksK, List.length_nil, List.length_cons, Nat.zero_add, Nat.reduceAdd]; have hk0 : w1.cell? ⟨b2, off2, none⟩ = some (.string ⟨#[117]⟩) := hcs 0 _ rfl; have hb2l0 : b2 < w1.heap.size := block_lt_of_cell hk0; have hk1 : w1.cell? ⟨b2, off2 + 1, none⟩ = some (.string ⟨#[117]⟩) := hcs 1 _ rfl; have hb2l1 : b2 < w1.heap.size := block_lt_of_cell hk1; clear hcs) | fail)
  have hb3 : Below w.heap.size w w1 := ((Below.refl _ _).alloc (Nat.le_refl _) _).trans (HB1.out.mono (by simp))
  have HB3 := Lib.hid hb3
  clear hb3
  refine wp_loop_rounds 3 ?_
  rw [rounds_succ]
  go_wp2_with (first | (go_at_call 53; refine (may_u a _).mono ?_; rintro e w2 ⟨rfl, rfl⟩) | (at_builtin; refine app1 (w0 := w) w.heap.size rfl _ _ 22 5 .u8 1 rfl Tryd.underlying22 info5 (by decide) _ [(c : Int)] a rfl _ rfl ?h0 ?h1 ?h2 ?h3 ?h4 ?h5) | fail)
  case h0 => simp
  case h1 => exact (own_one w1 w.heap.size c (Nat.le_of_lt hz1)).alloc _
  case h2 => exact (HB3.out.alloc (Nat.le_of_lt hz1) _).alloc (by simp; omega) _
  case h3 => simp; omega
  case h4 => simp
  case h5 =>
    intro v3 w3 ho3 hB3 hg3 hat3
    have hne3 : ∀ x, x < w1.heap.size ∨ x = w1.heap.size + 1 → some x ≠ v3.ownBlock := fun x hx => ne_own (q := w1.heap.size) hat3 rfl (by omega) hx
    have hz3 : w1.heap.size + 2 ≤ w3.heap.size := by have := hg3.size; simp at this; omega
    have hk3_0 : w3.cell? ⟨b2, off2, none⟩ = some (.string ⟨#[117]⟩) := cell_gr hg3 (by simp [Value.ownBlock]; omega) (cell_al (cell_al hk0 _) _)
    have hk3_1 : w3.cell? ⟨b2, off2 + 1, none⟩ = some (.string ⟨#[117]⟩) := cell_gr hg3 (by simp [Value.ownBlock]; omega) (cell_al (cell_al hk1 _) _)
    have hx3 : w3.cell? ⟨w1.heap.size + 1, 1, none⟩ = some (.int .i64 b) := cell_gr hg3 (by simp [Value.ownBlock]) (cell_of_row _ _ 1 _ _ _ (heap_alloc2_new w1 _ _))
    have HO3 := Lib.hid ho3; clear ho3
    have HB3' := Lib.hid hB3; clear hB3; clear hg3 hat3
    have HN3 := Lib.hid hne3; clear hne3; have HZ3 := Lib.hid hz3; clear hz3
    go_wp2_with fail
    rw [rounds_succ]
    go_wp2_with (first | (go_at_call 53; refine (may_u b _).mono ?_; rintro e w2 ⟨rfl, rfl⟩) | (at_builtin; refine app1 (w0 := w) w.heap.size rfl _ _ 22 5 .u8 1 rfl Tryd.underlying22 info5 (by decide) _ [(c : Int), a] b rfl _ rfl ?h0 ?h1 ?h2 ?h3 ?h4 ?h5) | fail)
    case h0 => simp
    case h1 => exact HO3.out
    case h2 => exact HB3'.out
    case h3 => exact HB3'.out.size
    case h4 => simp
    case h5 =>
      intro v4 w4 ho4 hB4 hg4 hat4
      have hne4 : ∀ x, x < w1.heap.size ∨ x = w1.heap.size + 1 → some x ≠ v4.ownBlock := fun x hx => ne_own2 hat4 (HN3.out x hx) (by have := HZ3.out; omega)
      have hz4 : w1.heap.size + 2 ≤ w4.heap.size := by have := hg4.size; have := HZ3.out; simp at *; omega
      have hk4_0 : w4.cell? ⟨b2, off2, none⟩ = some (.string ⟨#[117]⟩) := cell_gr hg4 (HN3.out _ (.inl hb2l0)) hk3_0
      have hk4_1 : w4.cell? ⟨b2, off2 + 1, none⟩ = some (.string ⟨#[117]⟩) := cell_gr hg4 (HN3.out _ (.inl hb2l1)) hk3_1
      have hx4 : w4.cell? ⟨w1.heap.size + 1, 1, none⟩ = some (.int .i64 b) := cell_gr hg4 (HN3.out _ (.inr rfl)) hx3
      have HO4 := Lib.hid ho4; clear ho4
      have HB4' := Lib.hid hB4; clear hB4; clear hg4 hat4
      have HN4 := Lib.hid hne4; clear hne4; have HZ4 := Lib.hid hz4; clear hz4
      clear hk3_0 hk3_1 hx3
      go_wp2_with fail
      rw [rounds_succ]
      go_wp2_with fail
      go_ret2
      exact ⟨_, rfl, HO4.out, HB4'.out⟩

set_option maxHeartbeats 800000 in
set_option maxRecDepth 20000 in
theorem write_3a (c : Nat) (a b s : Int) (w : World) (hG : Glob w) (hc : c ≤ 40) (hk : opk c = 3) (ha : ¬ inR 3 a) :
    Calls Tryd.prog 21 #[.agg #[.int .i64 c, .int .i64 a, .int .i64 b, .int .i64 s]] w (WrPost w [] 1) := by
  have HK := Lib.hid hk
  have HG := Lib.hid hG
  have hne := nm_ne' c (by omega)
  have hma : decide (inR 3 a) = false := decide_eq_false ha
  clear ha
  clear hk hG
  go_enter Tryd.func21, Tryd.ntmps21
  go_wp2_with (first | (go_at_call 44; refine (parts_k c 3 hc HK.out _ (HG.out.below ((Below.refl _ _).alloc (Nat.le_refl _) _))).mono ?_; rintro e w1 ⟨hb1, b2, off2, cap2, hb2, rfl, hcs⟩; have hz1 : w.heap.size < w1.heap.size := (by have := hb1.size; simp at this; omega); have hrow := row_kept hb1 (heap_alloc_new w _); have hq0 := cell_of_row _ _ 0 _ _ _ hrow; have hq1 := cell_of_row _ _ 1 _ _ _ hrow; have hq2 := cell_of_row _ _ 2 _ _ _ hrow; simp at hq0 hq1 hq2; have HR := Lib.hid hrow; clear hrow; have HB1 := Lib.hid hb1; clear hb1; simp only [ksK, List.length_nil, List.length_cons, Nat.zero_add, Nat.reduceAdd]; have hk0 : w1.cell? ⟨b2, off2, none⟩ = some (.string ⟨#[111]⟩) := hcs 0 _ rfl; have hb2l0 : b2 < w1.heap.size := block_lt_of_cell hk0; clear hcs) | fail)
  have hb3 : Below w.heap.size w w1 := ((Below.refl _ _).alloc (Nat.le_refl _) _).trans (HB1.out.mono (by simp))
  have HB3 := Lib.hid hb3
  clear hb3
  refine wp_loop_rounds 3 ?_
  rw [rounds_succ]
  go_wp2_with (first | (go_at_call 53; refine (may_o a _).mono ?_; rintro e w2 ⟨rfl, rfl⟩) | fail)
  go_ret2
  exact ⟨_, rfl, own_nil _ _ _ _, (HB3.out.alloc (Nat.le_of_lt hz1) _).alloc (by simp; omega) _⟩

set_option maxHeartbeats 800000 in
set_option maxRecDepth 20000 in
theorem write_4a (c : Nat) (a b s : Int) (w : World) (hG : Glob w) (hc : c ≤ 40) (hk : opk c = 4) (ha : ¬ inR 1 a) :
    Calls Tryd.prog 21 #[.agg #[.int .i64 c, .int .i64 a, .int .i64 b, .int .i64 s]] w (WrPost w [] 1) := by
  have HK := Lib.hid hk
  have HG := Lib.hid hG
  have hne := nm_ne' c (by omega)
  have hma : decide (inR 1 a) = false := decide_eq_false ha
  clear ha
  clear hk hG
  go_enter Tryd.func21, Tryd.ntmps21
  go_wp2_with (first | (go_at_call 44; refine (parts_k c 4 hc HK.out _ (HG.out.below ((Below.refl _ _).alloc (Nat.le_refl _) _))).mono ?_; rintro e w1 ⟨hb1, b2, off2, cap2, hb2, rfl, hcs⟩; have hz1 : w.heap.size < w1.heap.size := (by have := hb1.size; simp at this; omega); have hrow := row_kept hb1 (heap_alloc_new w _); have hq0 := cell_of_row _ _ 0 _ _ _ hrow; have hq1 := cell_of_row _ _ 1 _ _ _ hrow; have hq2 := cell_of_row _ _ 2 _ _ _ hrow; simp at hq0 hq1 hq2; have HR := Lib.hid hrow; clear hrow; have HB1 := Lib.hid hb1; clear hb1; simp only [ksK, List.length_nil, List.length_cons, Nat.zero_add, Nat.reduceAdd]; have hk0 : w1.cell? ⟨b2, off2, none⟩ = some (.string ⟨#[117]⟩) := hcs 0 _ rfl; have hb2l0 : b2 < w1.heap.size := block_lt_of_cell hk0; have hk1 : w1.cell? ⟨b2, off2 + 1, none⟩ = some (.string ⟨#[117]⟩) := hcs 1 _ rfl; have hb2l1 : b2 < w1.heap.size := block_lt_of_cell hk1; clear hcs) | fail)
  have hb3 : Below w.heap.size w w1 := ((Below.refl _ _).alloc (Nat.le_refl _) _).trans (HB1.out.mono (by simp))
  have HB3 := Lib.hid hb3
  clear hb3
  refine wp_loop_rounds 3 ?_
  rw [rounds_succ]
  go_wp2_with (first | (go_at_call 53; refine (may_u a _).mono ?_; rintro e w2 ⟨rfl, rfl⟩) | fail)
  go_ret2
  exact ⟨_, rfl, own_nil _ _ _ _, (HB3.out.alloc (Nat.le_of_lt hz1) _).alloc (by simp; omega) _⟩

set_option maxHeartbeats 800000 in
set_option maxRecDepth 20000 in
theorem write_4b (c : Nat) (a b s : Int) (w : World) (hG : Glob w) (hc : c ≤ 40) (hk : opk c = 4) (ha : inR 1 a) (hb : ¬ inR 1 b) :
    Calls Tryd.prog 21 #[.agg #[.int .i64 c, .int .i64 a, .int .i64 b, .int .i64 s]] w (WrPost w [] 1) := by
  have HK := Lib.hid hk
  have HG := Lib.hid hG
  have hne := nm_ne' c (by omega)
  have hma : decide (inR 1 a) = true := decide_eq_true ha
  have ha0 : 0 ≤ a := ha.1
  have ha1 : a ≤ 255 := ha.2
  clear ha
  have hmb : decide (inR 1 b) = false := decide_eq_false hb
  clear hb
  clear hk hG
  go_enter Tryd.func21, Tryd.ntmps21
  go_wp2_with (first | (go_at_call 44; refine (parts_k c 4 hc HK.out _ (HG.out.below ((Below.refl _ _).alloc (Nat.le_refl _) _))).mono ?_; rintro e w1 ⟨hb1, b2, off2, cap2, hb2, rfl, hcs⟩; have hz1 : w.heap.size < w1.heap.size := (by have := hb1.size; simp at this; omega); have hrow := row_kept hb1 (heap_alloc_new w _); have hq0 := cell_of_row _ _ 0 _ _ _ hrow; have hq1 := cell_of_row _ _ 1 _ _ _ hrow; have hq2 := cell_of_row _ _ 2 _ _ _ hrow; simp at hq0 hq1 hq2; have HR := Lib.hid hrow; clear hrow; have HB1 := Lib.hid hb1; clear hb1; simp only [ksK, List.length_nil, List.length_cons, Nat.zero_add, Nat.reduceAdd]; have hk0 : w1.cell? ⟨b2, off2, none⟩ = some (.string ⟨#[117]⟩) := hcs 0 _ rfl; have hb2l0 : b2 < w1.heap.size := block_lt_of_cell hk0; have hk1 : w1.cell? ⟨b2, off2 + 1, none⟩ = some (.string ⟨#[117]⟩) := hcs 1 _ rfl; have hb2l1 : b2 < w1.heap.size := block_lt_of_cell hk1; clear hcs) | fail)
  have hb3 : Below w.heap.size w w1 := ((Below.refl _ _).alloc (Nat.le_refl _) _).trans (HB1.out.mono (by simp))
  have HB3 := Lib.hid hb3
  clear hb3
  refine wp_loop_rounds 3 ?_
  rw [rounds_succ]
  go_wp2_with (first | (go_at_call 53; refine (may_u a _).mono ?_; rintro e w2 ⟨rfl, rfl⟩) | (at_builtin; refine app1 (w0 := w) w.heap.size rfl _ _ 22 5 .u8 1 rfl Tryd.underlying22 info5 (by decide) _ [(c : Int)] a rfl _ rfl ?h0 ?h1 ?h2 ?h3 ?h4 ?h5) | fail)
  case h0 => simp
  case h1 => exact (own_one w1 w.heap.size c (Nat.le_of_lt hz1)).alloc _
  case h2 => exact (HB3.out.alloc (Nat.le_of_lt hz1) _).alloc (by simp; omega) _
  case h3 => simp; omega
  case h4 => simp
  case h5 =>
    intro v3 w3 ho3 hB3 hg3 hat3
    have hne3 : ∀ x, x < w1.heap.size ∨ x = w1.heap.size + 1 → some x ≠ v3.ownBlock := fun x hx => ne_own (q := w1.heap.size) hat3 rfl (by omega) hx
    have hz3 : w1.heap.size + 2 ≤ w3.heap.size := by have := hg3.size; simp at this; omega
    have hk3_0 : w3.cell? ⟨b2, off2, none⟩ = some (.string ⟨#[117]⟩) := cell_gr hg3 (by simp [Value.ownBlock]; omega) (cell_al (cell_al hk0 _) _)
    have hk3_1 : w3.cell? ⟨b2, off2 + 1, none⟩ = some (.string ⟨#[117]⟩) := cell_gr hg3 (by simp [Value.ownBlock]; omega) (cell_al (cell_al hk1 _) _)
    have hx3 : w3.cell? ⟨w1.heap.size + 1, 1, none⟩ = some (.int .i64 b) := cell_gr hg3 (by simp [Value.ownBlock]) (cell_of_row _ _ 1 _ _ _ (heap_alloc2_new w1 _ _))
    have HO3 := Lib.hid ho3; clear ho3
    have HB3' := Lib.hid hB3; clear hB3; clear hg3 hat3
    have HN3 := Lib.hid hne3; clear hne3; have HZ3 := Lib.hid hz3; clear hz3
    go_wp2_with fail
    rw [rounds_succ]
    go_wp2_with (first | (go_at_call 53; refine (may_u b _).mono ?_; rintro e w2 ⟨rfl, rfl⟩) | fail)
    go_ret2
    exact ⟨_, rfl, own_nil _ _ _ _, HB3'.out⟩

end Go.Proofs.YtkphijabhoppnaaDoor
