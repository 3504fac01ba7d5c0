/- A bytecode written (brazier/code.Write). -/
import Derived.Test.YtkphijabhoppnaaDoorBb
import Derived.Test.YtkphijabhoppnaaDoorWWords
namespace Go.Proofs.YtkphijabhoppnaaDoor
open Go.RowKit Go.Proofs.YtkphijabhoppnaaDoorW.PrintWords
set_option linter.unusedSimpArgs false
set_option linter.unusedVariables false

/-- May an operand of a kind be this? -/
def inR (k : Nat) (v : Int) : Prop := if k = 1 then 0 ≤ v ∧ v ≤ 255 else if k = 2 then -128 ≤ v ∧ v ≤ 127 else -32768 ≤ v ∧ v < 32768
instance (k : Nat) (v : Int) : Decidable (inR k v) := by unfold inR; infer_instance

theorem may_u (v : Int) (w : World) : Calls Tryd.prog 53 #[.string ⟨#[117]⟩, .int .i64 v] w fun e w' => e = .returned (.bool (decide (inR 1 v))) ∧ w = w' := by
  by_cases h0 : 0 ≤ v
  · by_cases h1 : v ≤ 255
    · have e : decide (inR 1 v) = true := decide_eq_true (show 0 ≤ v ∧ v ≤ 255 from ⟨h0, h1⟩)
      rw [e]
      go_enter Tryd.func53, Tryd.ntmps53
      go_wp2_with fail
      go_ret
      exact ⟨rfl, rfl⟩
    · have e : decide (inR 1 v) = false := decide_eq_false (show ¬ (0 ≤ v ∧ v ≤ 255) from fun h => h1 h.2)
      have hd : decide (v ≤ 255) = false := decide_eq_false h1
      rw [e]
      clear h1
      go_enter Tryd.func53, Tryd.ntmps53
      go_wp2_with fail
      go_ret
      exact ⟨rfl, rfl⟩
  · have e : decide (inR 1 v) = false := decide_eq_false (show ¬ (0 ≤ v ∧ v ≤ 255) from fun h => h0 h.1)
    have h2 : v < 0 := by omega
    rw [e]
    clear h0
    go_enter Tryd.func53, Tryd.ntmps53
    go_wp2_with fail
    go_ret
    exact ⟨rfl, rfl⟩
theorem may_s (v : Int) (w : World) : Calls Tryd.prog 53 #[.string ⟨#[115]⟩, .int .i64 v] w fun e w' => e = .returned (.bool (decide (inR 2 v))) ∧ w = w' := by
  by_cases h0 : -128 ≤ v
  · by_cases h1 : v ≤ 127
    · have e : decide (inR 2 v) = true := decide_eq_true (show -128 ≤ v ∧ v ≤ 127 from ⟨h0, h1⟩)
      rw [e]
      go_enter Tryd.func53, Tryd.ntmps53
      go_wp2_with fail
      go_ret
      exact ⟨rfl, rfl⟩
    · have e : decide (inR 2 v) = false := decide_eq_false (show ¬ (-128 ≤ v ∧ v ≤ 127) from fun h => h1 h.2)
      have hd : decide (v ≤ 127) = false := decide_eq_false h1
      rw [e]
      clear h1
      go_enter Tryd.func53, Tryd.ntmps53
      go_wp2_with fail
      go_ret
      exact ⟨rfl, rfl⟩
  · have e : decide (inR 2 v) = false := decide_eq_false (show ¬ (-128 ≤ v ∧ v ≤ 127) from fun h => h0 h.1)
    have h2 : v < -128 := by omega
    rw [e]
    clear h0
    go_enter Tryd.func53, Tryd.ntmps53
    go_wp2_with fail
    go_ret
    exact ⟨rfl, rfl⟩
theorem may_o (v : Int) (w : World) : Calls Tryd.prog 53 #[.string ⟨#[111]⟩, .int .i64 v] w fun e w' => e = .returned (.bool (decide (inR 3 v))) ∧ w = w' := by
  by_cases h0 : -32768 ≤ v
  · by_cases h1 : v < 32768
    · have e : decide (inR 3 v) = true := decide_eq_true (show -32768 ≤ v ∧ v < 32768 from ⟨h0, h1⟩)
      rw [e]
      go_enter Tryd.func53, Tryd.ntmps53
      go_wp2_with fail
      go_ret
      exact ⟨rfl, rfl⟩
    · have e : decide (inR 3 v) = false := decide_eq_false (show ¬ (-32768 ≤ v ∧ v < 32768) from fun h => h1 h.2)
      have hd : decide (v < 32768) = false := decide_eq_false h1
      rw [e]
      clear h1
      go_enter Tryd.func53, Tryd.ntmps53
      go_wp2_with fail
      go_ret
      exact ⟨rfl, rfl⟩
  · have e : decide (inR 3 v) = false := decide_eq_false (show ¬ (-32768 ≤ v ∧ v < 32768) from fun h => h0 h.1)
    have h2 : v < -32768 := by omega
    rw [e]
    clear h0
    go_enter Tryd.func53, Tryd.ntmps53
    go_wp2_with fail
    go_ret
    exact ⟨rfl, rfl⟩

/-- What is wrong, or the bytes: a row of the call's own. -/
def WrPost (w : World) (bs : List Int) (err : Int) (e : Ending) (w' : World) : Prop :=
  ∃ v, e = .returned (.tuple #[v, .int .i64 err]) ∧ w'.ownsRow w.heap.size 5 1 v bs.length (nums .u8 bs) ∧ Below w.heap.size w w'

theorem write_form (c a b s : Int) (w : World) (hc : c < 0 ∨ 40 < c) : Calls Tryd.prog 21 #[.agg #[.int .i64 c, .int .i64 a, .int .i64 b, .int .i64 s]] w (WrPost w [] 5) := by
  have HC := Lib.hid hc
  clear hc
  go_enter Tryd.func21, Tryd.ntmps21
  go_wp2_with (first | (go_at_call 44; refine (parts_out c HC.out _).mono ?_; rintro e w1 ⟨rfl, rfl⟩) | fail)
  go_ret2
  exact ⟨_, rfl, own_nil _ _ _ _, (Below.refl _ _).alloc (Nat.le_refl _) _⟩

theorem info5 : (Tryd.prog.info? 5).map (fun i => (i.zero, i.size, i.bytes)) = some (some (.int .u8 0), 1, 1) := by kernel_rfl

section
variable {P : Program} {ops : Array Oper} {rest : List Oper} {o : Oper} {a : Act} {Q : Exit → Act → World → Prop}
/-- append(v, x), x a whole number: the box's place typed as the walk has it. -/
theorem app1 {w0 W : World} (base : Nat) (hgd : o.guard = none) (s x : Operand) (t e : TypeId) (k : IntKind) (bytes : Nat)
    (ho : o.op = .call { callee := .builtin .append, args := #[s, x], argTypes := #[t, t] })
    (ht : P.underlying t = some (.slice e)) (hinfo : (P.info? e).map (fun i => (i.zero, i.size, i.bytes)) = some (some (.int k 0), 1, bytes)) (hb0 : 0 < bytes)
    (v : Value) (xs : List Int) (y : Int) (hs : a.eval s = v) (adr : Nat) (hx : a.eval x = .slice (some ⟨adr, 0, none⟩) 1 1) (hadr : adr = W.heap.size)
    (HO : W.ownsRow base e 1 v xs.length (nums k xs)) (HB : Below base w0 W) (hbase : base ≤ W.heap.size) (hl : (xs.length + 1) * bytes ≤ 140737488355328)
    (h : ∀ v1 w1, w1.ownsRow base e 1 v1 (xs ++ [y]).length (nums k (xs ++ [y])) → Below base w0 w1 → W.grownBy w1 v.ownBlock → (v1.ownBlock = v.ownBlock ∨ ∃ b, v1.ownBlock = some b ∧ W.heap.size ≤ b) → wpList P ops Q rest (a.put o.dst v1) w1) :
    wpList P ops Q (o :: rest) a (W.alloc (.cells #[.int k y] e)) := by
  subst hadr
  exact print_append_num base hgd s x t e k bytes ho ht hinfo hb0 v xs y hs hx HO HB hbase hl h
end
theorem cell_gr {W w3 : World} {row : Option Nat} {a : Addr} {v : Value} (hg : W.grownBy w3 row) (hne : some a.block ≠ row) (h : W.cell? a = some v) : w3.cell? a = some v :=
  (World.cell?_of_block (w := W) (hg.block a.block (block_lt_of_cell h) hne)).trans h
theorem own_one (W : World) (base : Nat) (x : Int) (hb : base ≤ W.heap.size) :
    (W.alloc (.cells #[.int .u8 x] 5)).ownsRow base 5 1 (.slice (some ⟨W.heap.size, 0, none⟩) 1 1) [x].length (nums .u8 [x]) :=
  own_lit W base 5 .u8 [x] hb (by simp)

end Go.Proofs.YtkphijabhoppnaaDoor
namespace Go.Proofs.YtkphijabhoppnaaDoor
open Go.RowKit Go.Proofs.YtkphijabhoppnaaDoorW.PrintWords
set_option linter.unusedSimpArgs false
set_option linter.unusedVariables false
theorem ne_own {v v1 : Value} {N q x : Nat} (h : v1.ownBlock = v.ownBlock ∨ ∃ b, v1.ownBlock = some b ∧ N ≤ b) (hv : v.ownBlock = some q) (hW : q + 2 ≤ N) (hx : x < q ∨ x = q + 1) : some x ≠ v1.ownBlock := by
  rcases h with h | ⟨b, h, hb⟩
  · rw [h, hv]; simp; omega
  · rw [h]; simp; omega
theorem ne_own2 {v v1 : Value} {N x : Nat} (h : v1.ownBlock = v.ownBlock ∨ ∃ b, v1.ownBlock = some b ∧ N ≤ b) (hv : some x ≠ v.ownBlock) (hW : x < N) : some x ≠ v1.ownBlock := by
  rcases h with h | ⟨b, h, hb⟩
  · rw [h]; exact hv
  · rw [h]; simp; omega

set_option maxHeartbeats 800000 in
set_option maxRecDepth 20000 in
theorem write_0 (c : Nat) (a b s : Int) (w : World) (hG : Glob w) (hc : c ≤ 40) (hk : opk c = 0) :
    Calls Tryd.prog 21 #[.agg #[.int .i64 c, .int .i64 0, .int .i64 0, .int .i64 s]] w (WrPost w [(c : Int)] 0) := by
  have HK := Lib.hid hk
  have HG := Lib.hid hG
  have hne := nm_ne' c (by omega)
  clear hk hG
  go_enter Tryd.func21, Tryd.ntmps21
  go_wp2_with (first | (go_at_call 44; refine (parts_k c 0 hc HK.out _ (HG.out.below ((Below.refl _ _).alloc (Nat.le_refl _) _))).mono ?_; rintro e w1 ⟨hb1, b2, off2, cap2, hb2, rfl, hcs⟩; have hz1 : w.heap.size < w1.heap.size := (by have := hb1.size; simp at this; omega); have hrow := row_kept hb1 (heap_alloc_new w _); have hq0 := cell_of_row _ _ 0 _ _ _ hrow; have hq1 := cell_of_row _ _ 1 _ _ _ hrow; have hq2 := cell_of_row _ _ 2 _ _ _ hrow; simp at hq0 hq1 hq2; have HR := Lib.hid hrow; clear hrow; have HB1 := Lib.hid hb1; clear hb1; simp only [ksK, List.length_nil, List.length_cons, Nat.zero_add, Nat.reduceAdd]; clear hcs) | fail)
  have hb3 : Below w.heap.size w w1 := ((Below.refl _ _).alloc (Nat.le_refl _) _).trans (HB1.out.mono (by simp))
  have HB3 := Lib.hid hb3
  clear hb3
  refine wp_loop_rounds 3 ?_
  rw [rounds_succ]
  go_wp2_with fail
  rw [rounds_succ]
  go_wp2_with fail
  rw [rounds_succ]
  go_wp2_with fail
  go_ret2
  exact ⟨_, rfl, (own_one w1 w.heap.size c (Nat.le_of_lt hz1)).alloc _, (HB3.out.alloc (Nat.le_of_lt hz1) _).alloc (by simp; omega) _⟩

set_option maxHeartbeats 800000 in
set_option maxRecDepth 20000 in
theorem write_0a (c : Nat) (a b s : Int) (w : World) (hG : Glob w) (hc : c ≤ 40) (hk : opk c = 0) (ha : a ≠ 0) :
    Calls Tryd.prog 21 #[.agg #[.int .i64 c, .int .i64 a, .int .i64 b, .int .i64 s]] w (WrPost w [] 1) := by
  have HK := Lib.hid hk
  have HG := Lib.hid hG
  have hne := nm_ne' c (by omega)
  have hna : (a != 0) = true := by simpa using ha
  have hea : (a == 0) = false := by simpa using ha
  clear ha
  clear hk hG
  go_enter Tryd.func21, Tryd.ntmps21
  go_wp2_with (first | (go_at_call 44; refine (parts_k c 0 hc HK.out _ (HG.out.below ((Below.refl _ _).alloc (Nat.le_refl _) _))).mono ?_; rintro e w1 ⟨hb1, b2, off2, cap2, hb2, rfl, hcs⟩; have hz1 : w.heap.size < w1.heap.size := (by have := hb1.size; simp at this; omega); have hrow := row_kept hb1 (heap_alloc_new w _); have hq0 := cell_of_row _ _ 0 _ _ _ hrow; have hq1 := cell_of_row _ _ 1 _ _ _ hrow; have hq2 := cell_of_row _ _ 2 _ _ _ hrow; simp at hq0 hq1 hq2; have HR := Lib.hid hrow; clear hrow; have HB1 := Lib.hid hb1; clear hb1; simp only [ksK, List.length_nil, List.length_cons, Nat.zero_add, Nat.reduceAdd]; clear hcs) | fail)
  have hb3 : Below w.heap.size w w1 := ((Below.refl _ _).alloc (Nat.le_refl _) _).trans (HB1.out.mono (by simp))
  have HB3 := Lib.hid hb3
  clear hb3
  refine wp_loop_rounds 3 ?_
  rw [rounds_succ]
  go_wp2_with fail
  go_ret2
  exact ⟨_, rfl, own_nil _ _ _ _, (HB3.out.alloc (Nat.le_of_lt hz1) _).alloc (by simp; omega) _⟩

set_option maxHeartbeats 800000 in
set_option maxRecDepth 20000 in
theorem write_0b (c : Nat) (a b s : Int) (w : World) (hG : Glob w) (hc : c ≤ 40) (hk : opk c = 0) (hb : b ≠ 0) :
    Calls Tryd.prog 21 #[.agg #[.int .i64 c, .int .i64 0, .int .i64 b, .int .i64 s]] w (WrPost w [] 1) := by
  have HK := Lib.hid hk
  have HG := Lib.hid hG
  have hne := nm_ne' c (by omega)
  have hnb : (b != 0) = true := by simpa using hb
  have heb : (b == 0) = false := by simpa using hb
  clear hb
  clear hk hG
  go_enter Tryd.func21, Tryd.ntmps21
  go_wp2_with (first | (go_at_call 44; refine (parts_k c 0 hc HK.out _ (HG.out.below ((Below.refl _ _).alloc (Nat.le_refl _) _))).mono ?_; rintro e w1 ⟨hb1, b2, off2, cap2, hb2, rfl, hcs⟩; have hz1 : w.heap.size < w1.heap.size := (by have := hb1.size; simp at this; omega); have hrow := row_kept hb1 (heap_alloc_new w _); have hq0 := cell_of_row _ _ 0 _ _ _ hrow; have hq1 := cell_of_row _ _ 1 _ _ _ hrow; have hq2 := cell_of_row _ _ 2 _ _ _ hrow; simp at hq0 hq1 hq2; have HR := Lib.hid hrow; clear hrow; have HB1 := Lib.hid hb1; clear hb1; simp only [ksK, List.length_nil, List.length_cons, Nat.zero_add, Nat.reduceAdd]; clear hcs) | fail)
  have hb3 : Below w.heap.size w w1 := ((Below.refl _ _).alloc (Nat.le_refl _) _).trans (HB1.out.mono (by simp))
  have HB3 := Lib.hid hb3
  clear hb3
  refine wp_loop_rounds 3 ?_
  rw [rounds_succ]
  go_wp2_with fail
  rw [rounds_succ]
  go_wp2_with fail
  go_ret2
  exact ⟨_, rfl, own_nil _ _ _ _, (HB3.out.alloc (Nat.le_of_lt hz1) _).alloc (by simp; omega) _⟩

set_option maxHeartbeats 800000 in
set_option maxRecDepth 20000 in
theorem write_1 (c : Nat) (a b s : Int) (w : World) (hG : Glob w) (hc : c ≤ 40) (hk : opk c = 1) (ha : inR 1 a) :
    Calls Tryd.prog 21 #[.agg #[.int .i64 c, .int .i64 a, .int .i64 0, .int .i64 s]] w (WrPost w [(c : Int), a] 0) := by
  have HK := Lib.hid hk
  have HG := Lib.hid hG
  have hne := nm_ne' c (by omega)
  have hma : decide (inR 1 a) = true := decide_eq_true ha
  have ha0 : 0 ≤ a := ha.1
  have ha1 : a ≤ 255 := ha.2
  clear ha
  clear hk hG
  go_enter Tryd.func21, Tryd.ntmps21
  go_wp2_with (first | (go_at_call 44; refine (parts_k c 1 hc HK.out _ (HG.out.below ((Below.refl _ _).alloc (Nat.le_refl _) _))).mono ?_; rintro e w1 ⟨hb1, b2, off2, cap2, hb2, rfl, hcs⟩; have hz1 : w.heap.size < w1.heap.size := (by have := hb1.size; simp at this; omega); have hrow := row_kept hb1 (heap_alloc_new w _); have hq0 := cell_of_row _ _ 0 _ _ _ hrow; have hq1 := cell_of_row _ _ 1 _ _ _ hrow; have hq2 := cell_of_row _ _ 2 _ _ _ hrow; simp at hq0 hq1 hq2; have HR := Lib.hid hrow; clear hrow; have HB1 := Lib.hid hb1; clear hb1; simp only [ksK, List.length_nil, List.length_cons, Nat.zero_add, Nat.reduceAdd]; have hk0 : w1.cell? ⟨b2, off2, none⟩ = some (.string ⟨#[117]⟩) := hcs 0 _ rfl; have hb2l0 : b2 < w1.heap.size := block_lt_of_cell hk0; clear hcs) | fail)
  have hb3 : Below w.heap.size w w1 := ((Below.refl _ _).alloc (Nat.le_refl _) _).trans (HB1.out.mono (by simp))
  have HB3 := Lib.hid hb3
  clear hb3
  refine wp_loop_rounds 3 ?_
  rw [rounds_succ]
  go_wp2_with (first | (go_at_call 53; refine (may_u a _).mono ?_; rintro e w2 ⟨rfl, rfl⟩) | (at_builtin; refine app1 (w0 := w) w.heap.size rfl _ _ 22 5 .u8 1 rfl Tryd.underlying22 info5 (by decide) _ [(c : Int)] a rfl _ rfl ?h0 ?h1 ?h2 ?h3 ?h4 ?h5) | fail)
  case h0 => simp
  case h1 => exact (own_one w1 w.heap.size c (Nat.le_of_lt hz1)).alloc _
  case h2 => exact (HB3.out.alloc (Nat.le_of_lt hz1) _).alloc (by simp; omega) _
  case h3 => simp; omega
  case h4 => simp
  case h5 =>
    intro v3 w3 ho3 hB3 hg3 hat3
    have hne3 : ∀ x, x < w1.heap.size ∨ x = w1.heap.size + 1 → some x ≠ v3.ownBlock := fun x hx => ne_own (q := w1.heap.size) hat3 rfl (by omega) hx
    have hz3 : w1.heap.size + 2 ≤ w3.heap.size := by have := hg3.size; simp at this; omega
    have hk3_0 : w3.cell? ⟨b2, off2, none⟩ = some (.string ⟨#[117]⟩) := cell_gr hg3 (by simp [Value.ownBlock]; omega) (cell_al (cell_al hk0 _) _)
    have hx3 : w3.cell? ⟨w1.heap.size + 1, 1, none⟩ = some (.int .i64 0) := cell_gr hg3 (by simp [Value.ownBlock]) (cell_of_row _ _ 1 _ _ _ (heap_alloc2_new w1 _ _))
    have HO3 := Lib.hid ho3; clear ho3
    have HB3' := Lib.hid hB3; clear hB3; clear hg3 hat3
    have HN3 := Lib.hid hne3; clear hne3; have HZ3 := Lib.hid hz3; clear hz3
    go_wp2_with fail
    rw [rounds_succ]
    go_wp2_with fail
    rw [rounds_succ]
    go_wp2_with fail
    go_ret2
    exact ⟨_, rfl, HO3.out, HB3'.out⟩

set_option maxHeartbeats 800000 in
set_option maxRecDepth 20000 in
theorem write_1a (c : Nat) (a b s : Int) (w : World) (hG : Glob w) (hc : c ≤ 40) (hk : opk c = 1) (ha : ¬ inR 1 a) :
    Calls Tryd.prog 21 #[.agg #[.int .i64 c, .int .i64 a, .int .i64 b, .int .i64 s]] w (WrPost w [] 1) := by
  have HK := Lib.hid hk
  have HG := Lib.hid hG
  have hne := nm_ne' c (by omega)
  have hma : decide (inR 1 a) = false := decide_eq_false ha
  clear ha
  clear hk hG
  go_enter Tryd.func21, Tryd.ntmps21
  go_wp2_with (first | (go_at_call 44; refine (parts_k c 1 hc HK.out _ (HG.out.below ((Below.refl _ _).alloc (Nat.le_refl _) _))).mono ?_; rintro e w1 ⟨hb1, b2, off2, cap2, hb2, rfl, hcs⟩; have hz1 : w.heap.size < w1.heap.size := (by have := hb1.size; simp at this; omega); have hrow := row_kept hb1 (heap_alloc_new w _); have hq0 := cell_of_row _ _ 0 _ _ _ hrow; have hq1 := cell_of_row _ _ 1 _ _ _ hrow; have hq2 := cell_of_row _ _ 2 _ _ _ hrow; simp at hq0 hq1 hq2; have HR := Lib.hid hrow; clear hrow; have HB1 := Lib.hid hb1; clear hb1; simp only [ksK, List.length_nil, List.length_cons, Nat.zero_add, Nat.reduceAdd]; have hk0 : w1.cell? ⟨b2, off2, none⟩ = some (.string ⟨#[117]⟩) := hcs 0 _ rfl; have hb2l0 : b2 < w1.heap.size := block_lt_of_cell hk0; clear hcs) | fail)
  have hb3 : Below w.heap.size w w1 := ((Below.refl _ _).alloc (Nat.le_refl _) _).trans (HB1.out.mono (by simp))
  have HB3 := Lib.hid hb3
  clear hb3
  refine wp_loop_rounds 3 ?_
  rw [rounds_succ]
  go_wp2_with (first | (go_at_call 53; refine (may_u a _).mono ?_; rintro e w2 ⟨rfl, rfl⟩) | fail)
  go_ret2
  exact ⟨_, rfl, own_nil _ _ _ _, (HB3.out.alloc (Nat.le_of_lt hz1) _).alloc (by simp; omega) _⟩

set_option maxHeartbeats 800000 in
set_option maxRecDepth 20000 in
theorem write_1b (c : Nat) (a b s : Int) (w : World) (hG : Glob w) (hc : c ≤ 40) (hk : opk c = 1) (ha : inR 1 a) (hb : b ≠ 0) :
    Calls Tryd.prog 21 #[.agg #[.int .i64 c, .int .i64 a, .int .i64 b, .int .i64 s]] w (WrPost w [] 1) := by
  have HK := Lib.hid hk
  have HG := Lib.hid hG
  have hne := nm_ne' c (by omega)
  have hma : decide (inR 1 a) = true := decide_eq_true ha
  have ha0 : 0 ≤ a := ha.1
  have ha1 : a ≤ 255 := ha.2
  clear ha
  have hnb : (b != 0) = true := by simpa using hb
  have heb : (b == 0) = false := by simpa using hb
  clear hb
  clear hk hG
  go_enter Tryd.func21, Tryd.ntmps21
  go_wp2_with (first | (go_at_call 44; refine (parts_k c 1 hc HK.out _ (HG.out.below ((Below.refl _ _).alloc (Nat.le_refl _) _))).mono ?_; rintro e w1 ⟨hb1, b2, off2, cap2, hb2, rfl, hcs⟩; have hz1 : w.heap.size < w1.heap.size := (by have := hb1.size; simp at this; omega); have hrow := row_kept hb1 (heap_alloc_new w _); have hq0 := cell_of_row _ _ 0 _ _ _ hrow; have hq1 := cell_of_row _ _ 1 _ _ _ hrow; have hq2 := cell_of_row _ _ 2 _ _ _ hrow; simp at hq0 hq1 hq2; have HR := Lib.hid hrow; clear hrow; have HB1 := Lib.hid hb1; clear hb1; simp only [ksK, List.length_nil, List.length_cons, Nat.zero_add, Nat.reduceAdd]; have hk0 : w1.cell? ⟨b2, off2, none⟩ = some (.string ⟨#[117]⟩) := hcs 0 _ rfl; have hb2l0 : b2 < w1.heap.size := block_lt_of_cell hk0; clear hcs) | fail)
  have hb3 : Below w.heap.size w w1 := ((Below.refl _ _).alloc (Nat.le_refl _) _).trans (HB1.out.mono (by simp))
  have HB3 := Lib.hid hb3
  clear hb3
  refine wp_loop_rounds 3 ?_
  rw [rounds_succ]
  go_wp2_with (first | (go_at_call 53; refine (may_u a _).mono ?_; rintro e w2 ⟨rfl, rfl⟩) | (at_builtin; refine app1 (w0 := w) w.heap.size rfl _ _ 22 5 .u8 1 rfl Tryd.underlying22 info5 (by decide) _ [(c : Int)] a rfl _ rfl ?h0 ?h1 ?h2 ?h3 ?h4 ?h5) | fail)
  case h0 => simp
  case h1 => exact (own_one w1 w.heap.size c (Nat.le_of_lt hz1)).alloc _
  case h2 => exact (HB3.out.alloc (Nat.le_of_lt hz1) _).alloc (by simp; omega) _
  case h3 => simp; omega
  case h4 => simp
  case h5 =>
    intro v3 w3 ho3 hB3 hg3 hat3
    have hne3 : ∀ x, x < w1.heap.size ∨ x = w1.heap.size + 1 → some x ≠ v3.ownBlock := fun x hx => ne_own (q := w1.heap.size) hat3 rfl (by omega) hx
    have hz3 : w1.heap.size + 2 ≤ w3.heap.size := by have := hg3.size; simp at this; omega
    have hk3_0 : w3.cell? ⟨b2, off2, none⟩ = some (.string ⟨#[117]⟩) := cell_gr hg3 (by simp [Value.ownBlock]; omega) (cell_al (cell_al hk0 _) _)
    have hx3 : w3.cell? ⟨w1.heap.size + 1, 1, none⟩ = some (.int .i64 b) := cell_gr hg3 (by simp [Value.ownBlock]) (cell_of_row _ _ 1 _ _ _ (heap_alloc2_new w1 _ _))
    have HO3 := Lib.hid ho3; clear ho3
    have HB3' := Lib.hid hB3; clear hB3; clear hg3 hat3
    have HN3 := Lib.hid hne3; clear hne3; have HZ3 := Lib.hid hz3; clear hz3
    go_wp2_with fail
    rw [rounds_succ]
    go_wp2_with fail
    go_ret2
    exact ⟨_, rfl, own_nil _ _ _ _, HB3'.out⟩

set_option maxHeartbeats 800000 in
set_option maxRecDepth 20000 in
theorem write_2 (c : Nat) (a b s : Int) (w : World) (hG : Glob w) (hc : c ≤ 40) (hk : opk c = 2) (ha : inR 2 a) :
    Calls Tryd.prog 21 #[.agg #[.int .i64 c, .int .i64 a, .int .i64 0, .int .i64 s]] w (WrPost w [(c : Int), IntKind.u8.wrap a] 0) := by
  have HK := Lib.hid hk
  have HG := Lib.hid hG
  have hne := nm_ne' c (by omega)
  have hma : decide (inR 2 a) = true := decide_eq_true ha
  have ha0 : -128 ≤ a := ha.1
  have ha1 : a ≤ 127 := ha.2
  clear ha
  clear hk hG
  go_enter Tryd.func21, Tryd.ntmps21
  go_wp2_with (first | (go_at_call 44; refine (parts_k c 2 hc HK.out _ (HG.out.below ((Below.refl _ _).alloc (Nat.le_refl _) _))).mono ?_; rintro e w1 ⟨hb1, b2, off2, cap2, hb2, rfl, hcs⟩; have hz1 : w.heap.size < w1.heap.size := (by have := hb1.size; simp at this; omega); have hrow := row_kept hb1 (heap_alloc_new w _); have hq0 := cell_of_row _ _ 0 _ _ _ hrow; have hq1 := cell_of_row _ _ 1 _ _ _ hrow; have hq2 := cell_of_row _ _ 2 _ _ _ hrow; simp at hq0 hq1 hq2; have HR := Lib.hid hrow; clear hrow; have HB1 := Lib.hid hb1; clear hb1; simp only [ksK, List.length_nil, List.length_cons, Nat.zero_add, Nat.reduceAdd]; have hk0 : w1.cell? ⟨b2, off2, none⟩ = some (.string ⟨#[115]⟩) := hcs 0 _ rfl; have hb2l0 : b2 < w1.heap.size := block_lt_of_cell hk0; clear hcs) | fail)
  have hb3 : Below w.heap.size w w1 := ((Below.refl _ _).alloc (Nat.le_refl _) _).trans (HB1.out.mono (by simp))
  have HB3 := Lib.hid hb3
  clear hb3
  refine wp_loop_rounds 3 ?_
  rw [rounds_succ]
  go_wp2_with (first | (go_at_call 53; refine (may_s a _).mono ?_; rintro e w2 ⟨rfl, rfl⟩) | (at_builtin; refine app1 (w0 := w) w.heap.size rfl _ _ 22 5 .u8 1 rfl Tryd.underlying22 info5 (by decide) _ [(c : Int)] (IntKind.u8.wrap a) rfl _ rfl ?h0 ?h1 ?h2 ?h3 ?h4 ?h5) | fail)
  case h0 => simp
  case h1 => exact (own_one w1 w.heap.size c (Nat.le_of_lt hz1)).alloc _
  case h2 => exact (HB3.out.alloc (Nat.le_of_lt hz1) _).alloc (by simp; omega) _
  case h3 => simp; omega
  case h4 => simp
  case h5 =>
    intro v3 w3 ho3 hB3 hg3 hat3
    have hne3 : ∀ x, x < w1.heap.size ∨ x = w1.heap.size + 1 → some x ≠ v3.ownBlock := fun x hx => ne_own (q := w1.heap.size) hat3 rfl (by omega) hx
    have hz3 : w1.heap.size + 2 ≤ w3.heap.size := by have := hg3.size; simp at this; omega
    have hk3_0 : w3.cell? ⟨b2, off2, none⟩ = some (.string ⟨#[115]⟩) := cell_gr hg3 (by simp [Value.ownBlock]; omega) (cell_al (cell_al hk0 _) _)
    have hx3 : w3.cell? ⟨w1.heap.size + 1, 1, none⟩ = some (.int .i64 0) := cell_gr hg3 (by simp [Value.ownBlock]) (cell_of_row _ _ 1 _ _ _ (heap_alloc2_new w1 _ _))
    have HO3 := Lib.hid ho3; clear ho3
    have HB3' := Lib.hid hB3; clear hB3; clear hg3 hat3
    have HN3 := Lib.hid hne3; clear hne3; have HZ3 := Lib.hid hz3; clear hz3
    go_wp2_with fail
    rw [rounds_succ]
    go_wp2_with fail
    rw [rounds_succ]
    go_wp2_with fail
    go_ret2
    exact ⟨_, rfl, HO3.out, HB3'.out⟩

set_option maxHeartbeats 800000 in
set_option maxRecDepth 20000 in
theorem write_2a (c : Nat) (a b s : Int) (w : World) (hG : Glob w) (hc : c ≤ 40) (hk : opk c = 2) (ha : ¬ inR 2 a) :
    Calls Tryd.prog 21 #[.agg #[.int .i64 c, .int .i64 a, .int .i64 b, .int .i64 s]] w (WrPost w [] 1) := by
  have HK := Lib.hid hk
  have HG := Lib.hid hG
  have hne := nm_ne' c (by omega)
  have hma : decide (inR 2 a) = false := decide_eq_false ha
  clear ha
  clear hk hG
  go_enter Tryd.func21, Tryd.ntmps21
  go_wp2_with (first | (go_at_call 44; refine (parts_k c 2 hc HK.out _ (HG.out.below ((Below.refl _ _).alloc (Nat.le_refl _) _))).mono ?_; rintro e w1 ⟨hb1, b2, off2, cap2, hb2, rfl, hcs⟩; have hz1 : w.heap.size < w1.heap.size := (by have := hb1.size; simp at this; omega); have hrow := row_kept hb1 (heap_alloc_new w _); have hq0 := cell_of_row _ _ 0 _ _ _ hrow; have hq1 := cell_of_row _ _ 1 _ _ _ hrow; have hq2 := cell_of_row _ _ 2 _ _ _ hrow; simp at hq0 hq1 hq2; have HR := Lib.hid hrow; clear hrow; have HB1 := Lib.hid hb1; clear hb1; simp only [ksK, List.length_nil, List.length_cons, Nat.zero_add, Nat.reduceAdd]; have hk0 : w1.cell? ⟨b2, off2, none⟩ = some (.string ⟨#[115]⟩) := hcs 0 _ rfl; have hb2l0 : b2 < w1.heap.size := block_lt_of_cell hk0; clear hcs) | fail)
  have hb3 : Below w.heap.size w w1 := ((Below.refl _ _).alloc (Nat.le_refl _) _).trans (HB1.out.mono (by simp))
  have HB3 := Lib.hid hb3
  clear hb3
  refine wp_loop_rounds 3 ?_
  rw [rounds_succ]
  go_wp2_with (first | (go_at_call 53; refine (may_s a _).mono ?_; rintro e w2 ⟨rfl, rfl⟩) | fail)
  go_ret2
  exact ⟨_, rfl, own_nil _ _ _ _, (HB3.out.alloc (Nat.le_of_lt hz1) _).alloc (by simp; omega) _⟩

set_option maxHeartbeats 800000 in
set_option maxRecDepth 20000 in
theorem write_2b (c : Nat) (a b s : Int) (w : World) (hG : Glob w) (hc : c ≤ 40) (hk : opk c = 2) (ha : inR 2 a) (hb : b ≠ 0) :
    Calls Tryd.prog 21 #[.agg #[.int .i64 c, .int .i64 a, .int .i64 b, .int .i64 s]] w (WrPost w [] 1) := by
  have HK := Lib.hid hk
  have HG := Lib.hid hG
  have hne := nm_ne' c (by omega)
  have hma : decide (inR 2 a) = true := decide_eq_true ha
  have ha0 : -128 ≤ a := ha.1
  have ha1 : a ≤ 127 := ha.2
  clear ha
  have hnb : (b != 0) = true := by simpa using hb
  have heb : (b == 0) = false := by simpa using hb
  clear hb
  clear hk hG
  go_enter Tryd.func21, Tryd.ntmps21
  go_wp2_with (first | (go_at_call 44; refine (parts_k c 2 hc HK.out _ (HG.out.below ((Below.refl _ _).alloc (Nat.le_refl _) _))).mono ?_; rintro e w1 ⟨hb1, b2, off2, cap2, hb2, rfl, hcs⟩; have hz1 : w.heap.size < w1.heap.size := (by have := hb1.size; simp at this; omega); have hrow := row_kept hb1 (heap_alloc_new w _); have hq0 := cell_of_row _ _ 0 _ _ _ hrow; have hq1 := cell_of_row _ _ 1 _ _ _ hrow; have hq2 := cell_of_row _ _ 2 _ _ _ hrow; simp at hq0 hq1 hq2; have HR := Lib.hid hrow; clear hrow; have HB1 := Lib.hid hb1; clear hb1; simp only [ksK, List.length_nil, List.length_cons, Nat.zero_add, Nat.reduceAdd]; have hk0 : w1.cell? ⟨b2, off2, none⟩ = some (.string ⟨#[115]⟩) := hcs 0 _ rfl; have hb2l0 : b2 < w1.heap.size := block_lt_of_cell hk0; clear hcs) | fail)
  have hb3 : Below w.heap.size w w1 := ((Below.refl _ _).alloc (Nat.le_refl _) _).trans (HB1.out.mono (by simp))
  have HB3 := Lib.hid hb3
  clear hb3
  refine wp_loop_rounds 3 ?_
  rw [rounds_succ]
  go_wp2_with (first | (go_at_call 53; refine (may_s a _).mono ?_; rintro e w2 ⟨rfl, rfl⟩) | (at_builtin; refine app1 (w0 := w) w.heap.size rfl _ _ 22 5 .u8 1 rfl Tryd.underlying22 info5 (by decide) _ [(c : Int)] (IntKind.u8.wrap a) rfl _ rfl ?h0 ?h1 ?h2 ?h3 ?h4 ?h5) | fail)
  case h0 => simp
  case h1 => exact (own_one w1 w.heap.size c (Nat.le_of_lt hz1)).alloc _
  case h2 => exact (HB3.out.alloc (Nat.le_of_lt hz1) _).alloc (by simp; omega) _
  case h3 => simp; omega
  case h4 => simp
  case h5 =>
    intro v3 w3 ho3 hB3 hg3 hat3
    have hne3 : ∀ x, x < w1.heap.size ∨ x = w1.heap.size + 1 → some x ≠ v3.ownBlock := fun x hx => ne_own (q := w1.heap.size) hat3 rfl (by omega) hx
    have hz3 : w1.heap.size + 2 ≤ w3.heap.size := by have := hg3.size; simp at this; omega
    have hk3_0 : w3.cell? ⟨b2, off2, none⟩ = some (.string ⟨#[115]⟩) := cell_gr hg3 (by simp [Value.ownBlock]; omega) (cell_al (cell_al hk0 _) _)
    have hx3 : w3.cell? ⟨w1.heap.size + 1, 1, none⟩ = some (.int .i64 b) := cell_gr hg3 (by simp [Value.ownBlock]) (cell_of_row _ _ 1 _ _ _ (heap_alloc2_new w1 _ _))
    have HO3 := Lib.hid ho3; clear ho3
    have HB3' := Lib.hid hB3; clear hB3; clear hg3 hat3
    have HN3 := Lib.hid hne3; clear hne3; have HZ3 := Lib.hid hz3; clear hz3
    go_wp2_with fail
    rw [rounds_succ]
    go_wp2_with fail
    go_ret2
    exact ⟨_, rfl, own_nil _ _ _ _, HB3'.out⟩

set_option maxHeartbeats 800000 in
set_option maxRecDepth 20000 in
theorem write_3 (c : Nat) (a b s : Int) (w : World) (hG : Glob w) (hc : c ≤ 40) (hk : opk c = 3) (ha : inR 3 a) :
    Calls Tryd.prog 21 #[.agg #[.int .i64 c, .int .i64 a, .int .i64 0, .int .i64 s]] w (WrPost w [(c : Int), IntKind.u8.wrap a, IntKind.u8.wrap (a / 256)] 0) := by
  have HK := Lib.hid hk
  have HG := Lib.hid hG
  have hne := nm_ne' c (by omega)
  have hma : decide (inR 3 a) = true := decide_eq_true ha
  have ha0 : -32768 ≤ a := ha.1
  have ha1 : a < 32768 := ha.2
  clear ha
  clear hk hG
  go_enter Tryd.func21, Tryd.ntmps21
  go_wp2_with (first | (go_at_call 44; refine (parts_k c 3 hc HK.out _ (HG.out.below ((Below.refl _ _).alloc (Nat.le_refl _) _))).mono ?_; rintro e w1 ⟨hb1, b2, off2, cap2, hb2, rfl, hcs⟩; have hz1 : w.heap.size < w1.heap.size := (by have := hb1.size; simp at this; omega); have hrow := row_kept hb1 (heap_alloc_new w _); have hq0 := cell_of_row _ _ 0 _ _ _ hrow; have hq1 := cell_of_row _ _ 1 _ _ _ hrow; have hq2 := cell_of_row _ _ 2 _ _ _ hrow; simp at hq0 hq1 hq2; have HR := Lib.hid hrow; clear hrow; have HB1 := Lib.hid hb1; clear hb1; simp only [ksK, List.length_nil, List.length_cons, Nat.zero_add, Nat.reduceAdd]; have hk0 : w1.cell? ⟨b2, off2, none⟩ = some (.string ⟨#[111]⟩) := hcs 0 _ rfl; have hb2l0 : b2 < w1.heap.size := block_lt_of_cell hk0; clear hcs) | fail)
  have hb3 : Below w.heap.size w w1 := ((Below.refl _ _).alloc (Nat.le_refl _) _).trans (HB1.out.mono (by simp))
  have HB3 := Lib.hid hb3
  clear hb3
  refine wp_loop_rounds 3 ?_
  rw [rounds_succ]
  go_wp2_with (first | (go_at_call 53; refine (may_o a _).mono ?_; rintro e w2 ⟨rfl, rfl⟩) | (at_builtin; refine app1 (w0 := w) w.heap.size rfl _ _ 22 5 .u8 1 rfl Tryd.underlying22 info5 (by decide) _ [(c : Int)] (IntKind.u8.wrap a) rfl _ rfl ?h0 ?h1 ?h2 ?h3 ?h4 ?h5) | fail)
  case h0 => simp
  case h1 => exact (own_one w1 w.heap.size c (Nat.le_of_lt hz1)).alloc _
  case h2 => exact (HB3.out.alloc (Nat.le_of_lt hz1) _).alloc (by simp; omega) _
  case h3 => simp; omega
  case h4 => simp
  case h5 =>
    intro v3 w3 ho3 hB3 hg3 hat3
    have hne3 : ∀ x, x < w1.heap.size ∨ x = w1.heap.size + 1 → some x ≠ v3.ownBlock := fun x hx => ne_own (q := w1.heap.size) hat3 rfl (by omega) hx
    have hz3 : w1.heap.size + 2 ≤ w3.heap.size := by have := hg3.size; simp at this; omega
    have hk3_0 : w3.cell? ⟨b2, off2, none⟩ = some (.string ⟨#[111]⟩) := cell_gr hg3 (by simp [Value.ownBlock]; omega) (cell_al (cell_al hk0 _) _)
    have hx3 : w3.cell? ⟨w1.heap.size + 1, 1, none⟩ = some (.int .i64 0) := cell_gr hg3 (by simp [Value.ownBlock]) (cell_of_row _ _ 1 _ _ _ (heap_alloc2_new w1 _ _))
    have HO3 := Lib.hid ho3; clear ho3
    have HB3' := Lib.hid hB3; clear hB3; clear hg3 hat3
    have HN3 := Lib.hid hne3; clear hne3; have HZ3 := Lib.hid hz3; clear hz3
    go_wp2_with (first | (at_builtin; refine app1 (w0 := w) w.heap.size rfl _ _ 22 5 .u8 1 rfl Tryd.underlying22 info5 (by decide) _ [(c : Int), (IntKind.u8.wrap a)] (IntKind.u8.wrap (a / 256)) rfl _ rfl ?h0 ?h1 ?h2 ?h3 ?h4 ?h5) | fail)
    case h0 => simp
    case h1 => exact HO3.out
    case h2 => exact HB3'.out
    case h3 => exact HB3'.out.size
    case h4 => simp
    case h5 =>
      intro v4 w4 ho4 hB4 hg4 hat4
      have hne4 : ∀ x, x < w1.heap.size ∨ x = w1.heap.size + 1 → some x ≠ v4.ownBlock := fun x hx => ne_own2 hat4 (HN3.out x hx) (by have := HZ3.out; omega)
      have hz4 : w1.heap.size + 2 ≤ w4.heap.size := by have := hg4.size; have := HZ3.out; simp at *; omega
      have hk4_0 : w4.cell? ⟨b2, off2, none⟩ = some (.string ⟨#[111]⟩) := cell_gr hg4 (HN3.out _ (.inl hb2l0)) hk3_0
      have hx4 : w4.cell? ⟨w1.heap.size + 1, 1, none⟩ = some (.int .i64 0) := cell_gr hg4 (HN3.out _ (.inr rfl)) hx3
      have HO4 := Lib.hid ho4; clear ho4
      have HB4' := Lib.hid hB4; clear hB4; clear hg4 hat4
      have HN4 := Lib.hid hne4; clear hne4; have HZ4 := Lib.hid hz4; clear hz4
      clear hk3_0 hx3
      go_wp2_with fail
      rw [rounds_succ]
      go_wp2_with fail
      rw [rounds_succ]
      go_wp2_with fail
      go_ret2
      exact ⟨_, rfl, HO4.out, HB4'.out⟩

set_option maxHeartbeats 800000 in
set_option maxRecDepth 20000 in
theorem write_3b (c : Nat) (a b s : Int) (w : World) (hG : Glob w) (hc : c ≤ 40) (hk : opk c = 3) (ha : inR 3 a) (hb : b ≠ 0) :
    Calls Tryd.prog 21 #[.agg #[.int .i64 c, .int .i64 a, .int .i64 b, .int .i64 s]] w (WrPost w [] 1) := by
  have HK := Lib.hid hk
  have HG := Lib.hid hG
  have hne := nm_ne' c (by omega)
  have hma : decide (inR 3 a) = true := decide_eq_true ha
  have ha0 : -32768 ≤ a := ha.1
  have ha1 : a < 32768 := ha.2
  clear ha
  have hnb : (b != 0) = true := by simpa using hb
  have heb : (b == 0) = false := by simpa using hb
  clear hb
  clear hk hG
  go_enter Tryd.func21, Tryd.ntmps21
  go_wp2_with (first | (go_at_call 44; refine (parts_k c 3 hc HK.out _ (HG.out.below ((Below.refl _ _).alloc (Nat.le_refl _) _))).mono ?_; rintro e w1 ⟨hb1, b2, off2, cap2, hb2, rfl, hcs⟩; have hz1 : w.heap.size < w1.heap.size := (by have := hb1.size; simp at this; omega); have hrow := row_kept hb1 (heap_alloc_new w _); have hq0 := cell_of_row _ _ 0 _ _ _ hrow; have hq1 := cell_of_row _ _ 1 _ _ _ hrow; have hq2 := cell_of_row _ _ 2 _ _ _ hrow; simp at hq0 hq1 hq2; have HR := Lib.hid hrow; clear hrow; have HB1 := Lib.hid hb1; clear hb1; simp only [ksK, List.length_nil, List.length_cons, Nat.zero_add, Nat.reduceAdd]; have hk0 : w1.cell? ⟨b2, off2, none⟩ = some (.string ⟨#[111]⟩) := hcs 0 _ rfl; have hb2l0 : b2 < w1.heap.size := block_lt_of_cell hk0; clear hcs) | fail)
  have hb3 : Below w.heap.size w w1 := ((Below.refl _ _).alloc (Nat.le_refl _) _).trans (HB1.out.mono (by simp))
  have HB3 := Lib.hid hb3
  clear hb3
  refine wp_loop_rounds 3 ?_
  rw [rounds_succ]
  go_wp2_with (first | (go_at_call 53; refine (may_o a _).mono ?_; rintro e w2 ⟨rfl, rfl⟩) | (at_builtin; refine app1 (w0 := w) w.heap.size rfl _ _ 22 5 .u8 1 rfl Tryd.underlying22 info5 (by decide) _ [(c : Int)] (IntKind.u8.wrap a) rfl _ rfl ?h0 ?h1 ?h2 ?h3 ?h4 ?h5) | fail)
  case h0 => simp
  case h1 => exact (own_one w1 w.heap.size c (Nat.le_of_lt hz1)).alloc _
  case h2 => exact (HB3.out.alloc (Nat.le_of_lt hz1) _).alloc (by simp; omega) _
  case h3 => simp; omega
  case h4 => simp
  case h5 =>
    intro v3 w3 ho3 hB3 hg3 hat3
    have hne3 : ∀ x, x < w1.heap.size ∨ x = w1.heap.size + 1 → some x ≠ v3.ownBlock := fun x hx => ne_own (q := w1.heap.size) hat3 rfl (by omega) hx
    have hz3 : w1.heap.size + 2 ≤ w3.heap.size := by have := hg3.size; simp at this; omega
    have hk3_0 : w3.cell? ⟨b2, off2, none⟩ = some (.string ⟨#[111]⟩) := cell_gr hg3 (by simp [Value.ownBlock]; omega) (cell_al (cell_al hk0 _) _)
    have hx3 : w3.cell? ⟨w1.heap.size + 1, 1, none⟩ = some (.int .i64 b) := cell_gr hg3 (by simp [Value.ownBlock]) (cell_of_row _ _ 1 _ _ _ (heap_alloc2_new w1 _ _))
    have HO3 := Lib.hid ho3; clear ho3
    have HB3' := Lib.hid hB3; clear hB3; clear hg3 hat3
    have HN3 := Lib.hid hne3; clear hne3; have HZ3 := Lib.hid hz3; clear hz3
    go_wp2_with (first | (at_builtin; refine app1 (w0 := w) w.heap.size rfl _ _ 22 5 .u8 1 rfl Tryd.underlying22 info5 (by decide) _ [(c : Int), (IntKind.u8.wrap a)] (IntKind.u8.wrap (a / 256)) rfl _ rfl ?h0 ?h1 ?h2 ?h3 ?h4 ?h5) | fail)
    case h0 => simp
    case h1 => exact HO3.out
    case h2 => exact HB3'.out
    case h3 => exact HB3'.out.size
    case h4 => simp
    case h5 =>
      intro v4 w4 ho4 hB4 hg4 hat4
      have hne4 : ∀ x, x < w1.heap.size ∨ x = w1.heap.size + 1 → some x ≠ v4.ownBlock := fun x hx => ne_own2 hat4 (HN3.out x hx) (by have := HZ3.out; omega)
      have hz4 : w1.heap.size + 2 ≤ w4.heap.size := by have := hg4.size; have := HZ3.out; simp at *; omega
      have hk4_0 : w4.cell? ⟨b2, off2, none⟩ = some (.string ⟨#[111]⟩) := cell_gr hg4 (HN3.out _ (.inl hb2l0)) hk3_0
      have hx4 : w4.cell? ⟨w1.heap.size + 1, 1, none⟩ = some (.int .i64 b) := cell_gr hg4 (HN3.out _ (.inr rfl)) hx3
      have HO4 := Lib.hid ho4; clear ho4
      have HB4' := Lib.hid hB4; clear hB4; clear hg4 hat4
      have HN4 := Lib.hid hne4; clear hne4; have HZ4 := Lib.hid hz4; clear hz4
      clear hk3_0 hx3
      go_wp2_with fail
      rw [rounds_succ]
      go_wp2_with fail
      go_ret2
      exact ⟨_, rfl, own_nil _ _ _ _, HB4'.out⟩

set_option maxHeartbeats 800000 in
set_option maxRecDepth 20000 in
theorem write_4 (c : Nat) (a b s : Int) (w : World) (hG : Glob w) (hc : c ≤ 40) (hk : opk c = 4) (ha : inR 1 a) (hb : inR 1 b) :
    Calls Tryd.prog 21 #[.agg #[.int .i64 c, .int .i64 a, .int .i64 b, .int .i64 s]] w (WrPost w [(c : Int), a, b] 0) := by
  have HK := Lib.hid hk
  have HG := Lib.hid hG
  have hne := nm_ne' c (by omega)
  have hma : decide (inR 1 a) = true := decide_eq_true ha
  have ha0 : 0 ≤ a := ha.1
  have ha1 : a ≤ 255 := ha.2
  clear ha
  have hmb : decide (inR 1 b) = true := decide_eq_true hb
  have hb0 : 0 ≤ b := hb.1
  have hb1 : b ≤ 255 := hb.2
  clear hb
  clear hk hG
  go_enter Tryd.func21, Tryd.ntmps21
  go_wp2_with (first | (go_at_call 44; refine (parts_k c 4 hc HK.out _ (HG.out.below ((Below.refl _ _).alloc (Nat.le_refl _) _))).mono ?_; rintro e w1 ⟨hb1, b2, off2, cap2, hb2, rfl, hcs⟩; have hz1 : w.heap.size < w1.heap.size := (by have := hb1.size; simp at this; omega); have hrow := row_kept hb1 (heap_alloc_new w _); have hq0 := cell_of_row _ _ 0 _ _ _ hrow; have hq1 := cell_of_row _ _ 1 _ _ _ hrow; have hq2 := cell_of_row _ _ 2 _ _ _ hrow; simp at hq0 hq1 hq2; have HR := Lib.hid hrow; clear hrow; have HB1 := Lib.hid hb1; clear hb1; simp only [ksK, List.length_nil, List.length_cons, Nat.zero_add, Nat.reduceAdd]; have hk0 : w1.cell? ⟨b2, off2, none⟩ = some (.string ⟨#[117]⟩) := hcs 0 _ rfl; have hb2l0 : b2 < w1.heap.size := block_lt_of_cell hk0; have hk1 : w1.cell? ⟨b2, off2 + 1, none⟩ = some (.string ⟨#[117]⟩) := hcs 1 _ rfl; have hb2l1 : b2 < w1.heap.size := block_lt_of_cell hk1; clear hcs) | fail)
  have hb3 : Below w.heap.size w w1 := ((Below.refl _ _).alloc (Nat.le_refl _) _).trans (HB1.out.mono (by simp))
  have HB3 := Lib.hid hb3
  clear hb3
  refine wp_loop_rounds 3 ?_
  rw [rounds_succ]
  go_wp2_with (first | (go_at_call 53; refine (may_u a _).mono ?_; rintro e w2 ⟨rfl, rfl⟩) | (at_builtin; refine app1 (w0 := w) w.heap.size rfl _ _ 22 5 .u8 1 rfl Tryd.underlying22 info5 (by decide) _ [(c : Int)] a rfl _ rfl ?h0 ?h1 ?h2 ?h3 ?h4 ?h5) | fail)
  case h0 => simp
  case h1 => exact (own_one w1 w.heap.size c (Nat.le_of_lt hz1)).alloc _
  case h2 => exact (HB3.out.alloc (Nat.le_of_lt hz1) _).alloc (by simp; omega) _
  case h3 => simp; omega
  case h4 => simp
  case h5 =>
    intro v3 w3 ho3 hB3 hg3 hat3
    have hne3 : ∀ x, x < w1.heap.size ∨ x = w1.heap.size + 1 → some x ≠ v3.ownBlock := fun x hx => ne_own (q := w1.heap.size) hat3 rfl (by omega) hx
    have hz3 : w1.heap.size + 2 ≤ w3.heap.size := by have := hg3.size; simp at this; omega
    have hk3_0 : w3.cell? ⟨b2, off2, none⟩ = some (.string ⟨#[117]⟩) := cell_gr hg3 (by simp [Value.ownBlock]; omega) (cell_al (cell_al hk0 _) _)
    have hk3_1 : w3.cell? ⟨b2, off2 + 1, none⟩ = some (.string ⟨#[117]⟩) := cell_gr hg3 (by simp [Value.ownBlock]; omega) (cell_al (cell_al hk1 _) _)
    have hx3 : w3.cell? ⟨w1.heap.size + 1, 1, none⟩ = some (.int .i64 b) := cell_gr hg3 (by simp [Value.ownBlock]) (cell_of_row _ _ 1 _ _ _ (heap_alloc2_new w1 _ _))
    have HO3 := Lib.hid ho3; clear ho3
    have HB3' := Lib.hid hB3; clear hB3; clear hg3 hat3
    have HN3 := Lib.hid hne3; clear hne3; have HZ3 := Lib.hid hz3; clear hz3
    go_wp2_with fail
    rw [rounds_succ]
    go_wp2_with (first | (go_at_call 53; refine (may_u b _).mono ?_; rintro e w2 ⟨rfl, rfl⟩) | (at_builtin; refine app1 (w0 := w) w.heap.size rfl _ _ 22 5 .u8 1 rfl Tryd.underlying22 info5 (by decide) _ [(c : Int), a] b rfl _ rfl ?h0 ?h1 ?h2 ?h3 ?h4 ?h5) | fail)
    case h0 => simp
    case h1 => exact HO3.out
    case h2 => exact HB3'.out
    case h3 => exact HB3'.out.size
    case h4 => simp
    case h5 =>
      intro v4 w4 ho4 hB4 hg4 hat4
      have hne4 : ∀ x, x < w1.heap.size ∨ x = w1.heap.size + 1 → some x ≠ v4.ownBlock := fun x hx => ne_own2 hat4 (HN3.out x hx) (by have := HZ3.out; omega)
      have hz4 : w1.heap.size + 2 ≤ w4.heap.size := by have := hg4.size; have := HZ3.out; simp at *; omega
      have hk4_0 : w4.cell? ⟨b2, off2, none⟩ = some (.string ⟨#[117]⟩) := cell_gr hg4 (HN3.out _ (.inl hb2l0)) hk3_0
      have hk4_1 : w4.cell? ⟨b2, off2 + 1, none⟩ = some (.string ⟨#[117]⟩) := cell_gr hg4 (HN3.out _ (.inl hb2l1)) hk3_1
      have hx4 : w4.cell? ⟨w1.heap.size + 1, 1, none⟩ = some (.int .i64 b) := cell_gr hg4 (HN3.out _ (.inr rfl)) hx3
      have HO4 := Lib.hid ho4; clear ho4
      have HB4' := Lib.hid hB4; clear hB4; clear hg4 hat4
      have HN4 := Lib.hid hne4; clear hne4; have HZ4 := Lib.hid hz4; clear hz4
      clear hk3_0 hk3_1 hx3
      go_wp2_with fail
      rw [rounds_succ]
      go_wp2_with fail
      go_ret2
      exact ⟨_, rfl, HO4.out, HB4'.out⟩

set_option maxHeartbeats 800000 in
set_option maxRecDepth 20000 in
theorem write_3a (c : Nat) (a b s : Int) (w : World) (hG : Glob w) (hc : c ≤ 40) (hk : opk c = 3) (ha : ¬ inR 3 a) :
    Calls Tryd.prog 21 #[.agg #[.int .i64 c, .int .i64 a, .int .i64 b, .int .i64 s]] w (WrPost w [] 1) := by
  have HK := Lib.hid hk
  have HG := Lib.hid hG
  have hne := nm_ne' c (by omega)
  have hma : decide (inR 3 a) = false := decide_eq_false ha
  clear ha
  clear hk hG
  go_enter Tryd.func21, Tryd.ntmps21
  go_wp2_with (first | (go_at_call 44; refine (parts_k c 3 hc HK.out _ (HG.out.below ((Below.refl _ _).alloc (Nat.le_refl _) _))).mono ?_; rintro e w1 ⟨hb1, b2, off2, cap2, hb2, rfl, hcs⟩; have hz1 : w.heap.size < w1.heap.size := (by have := hb1.size; simp at this; omega); have hrow := row_kept hb1 (heap_alloc_new w _); have hq0 := cell_of_row _ _ 0 _ _ _ hrow; have hq1 := cell_of_row _ _ 1 _ _ _ hrow; have hq2 := cell_of_row _ _ 2 _ _ _ hrow; simp at hq0 hq1 hq2; have HR := Lib.hid hrow; clear hrow; have HB1 := Lib.hid hb1; clear hb1; simp only [ksK, List.length_nil, List.length_cons, Nat.zero_add, Nat.reduceAdd]; have hk0 : w1.cell? ⟨b2, off2, none⟩ = some (.string ⟨#[111]⟩) := hcs 0 _ rfl; have hb2l0 : b2 < w1.heap.size := block_lt_of_cell hk0; clear hcs) | fail)
  have hb3 : Below w.heap.size w w1 := ((Below.refl _ _).alloc (Nat.le_refl _) _).trans (HB1.out.mono (by simp))
  have HB3 := Lib.hid hb3
  clear hb3
  refine wp_loop_rounds 3 ?_
  rw [rounds_succ]
  go_wp2_with (first | (go_at_call 53; refine (may_o a _).mono ?_; rintro e w2 ⟨rfl, rfl⟩) | fail)
  go_ret2
  exact ⟨_, rfl, own_nil _ _ _ _, (HB3.out.alloc (Nat.le_of_lt hz1) _).alloc (by simp; omega) _⟩

set_option maxHeartbeats 800000 in
set_option maxRecDepth 20000 in
theorem write_4a (c : Nat) (a b s : Int) (w : World) (hG : Glob w) (hc : c ≤ 40) (hk : opk c = 4) (ha : ¬ inR 1 a) :
    Calls Tryd.prog 21 #[.agg #[.int .i64 c, .int .i64 a, .int .i64 b, .int .i64 s]] w (WrPost w [] 1) := by
  have HK := Lib.hid hk
  have HG := Lib.hid hG
  have hne := nm_ne' c (by omega)
  have hma : decide (inR 1 a) = false := decide_eq_false ha
  clear ha
  clear hk hG
  go_enter Tryd.func21, Tryd.ntmps21
  go_wp2_with (first | (go_at_call 44; refine (parts_k c 4 hc HK.out _ (HG.out.below ((Below.refl _ _).alloc (Nat.le_refl _) _))).mono ?_; rintro e w1 ⟨hb1, b2, off2, cap2, hb2, rfl, hcs⟩; have hz1 : w.heap.size < w1.heap.size := (by have := hb1.size; simp at this; omega); have hrow := row_kept hb1 (heap_alloc_new w _); have hq0 := cell_of_row _ _ 0 _ _ _ hrow; have hq1 := cell_of_row _ _ 1 _ _ _ hrow; have hq2 := cell_of_row _ _ 2 _ _ _ hrow; simp at hq0 hq1 hq2; have HR := Lib.hid hrow; clear hrow; have HB1 := Lib.hid hb1; clear hb1; simp only [ksK, List.length_nil, List.length_cons, Nat.zero_add, Nat.reduceAdd]; have hk0 : w1.cell? ⟨b2, off2, none⟩ = some (.string ⟨#[117]⟩) := hcs 0 _ rfl; have hb2l0 : b2 < w1.heap.size := block_lt_of_cell hk0; have hk1 : w1.cell? ⟨b2, off2 + 1, none⟩ = some (.string ⟨#[117]⟩) := hcs 1 _ rfl; have hb2l1 : b2 < w1.heap.size := block_lt_of_cell hk1; clear hcs) | fail)
  have hb3 : Below w.heap.size w w1 := ((Below.refl _ _).alloc (Nat.le_refl _) _).trans (HB1.out.mono (by simp))
  have HB3 := Lib.hid hb3
  clear hb3
  refine wp_loop_rounds 3 ?_
  rw [rounds_succ]
  go_wp2_with (first | (go_at_call 53; refine (may_u a _).mono ?_; rintro e w2 ⟨rfl, rfl⟩) | fail)
  go_ret2
  exact ⟨_, rfl, own_nil _ _ _ _, (HB3.out.alloc (Nat.le_of_lt hz1) _).alloc (by simp; omega) _⟩

set_option maxHeartbeats 800000 in
set_option maxRecDepth 20000 in
theorem write_4b (c : Nat) (a b s : Int) (w : World) (hG : Glob w) (hc : c ≤ 40) (hk : opk c = 4) (ha : inR 1 a) (hb : ¬ inR 1 b) :
    Calls Tryd.prog 21 #[.agg #[.int .i64 c, .int .i64 a, .int .i64 b, .int .i64 s]] w (WrPost w [] 1) := by
  have HK := Lib.hid hk
  have HG := Lib.hid hG
  have hne := nm_ne' c (by omega)
  have hma : decide (inR 1 a) = true := decide_eq_true ha
  have ha0 : 0 ≤ a := ha.1
  have ha1 : a ≤ 255 := ha.2
  clear ha
  have hmb : decide (inR 1 b) = false := decide_eq_false hb
  clear hb
  clear hk hG
  go_enter Tryd.func21, Tryd.ntmps21
  go_wp2_with (first | (go_at_call 44; refine (parts_k c 4 hc HK.out _ (HG.out.below ((Below.refl _ _).alloc (Nat.le_refl _) _))).mono ?_; rintro e w1 ⟨hb1, b2, off2, cap2, hb2, rfl, hcs⟩; have hz1 : w.heap.size < w1.heap.size := (by have := hb1.size; simp at this; omega); have hrow := row_kept hb1 (heap_alloc_new w _); have hq0 := cell_of_row _ _ 0 _ _ _ hrow; have hq1 := cell_of_row _ _ 1 _ _ _ hrow; have hq2 := cell_of_row _ _ 2 _ _ _ hrow; simp at hq0 hq1 hq2; have HR := Lib.hid hrow; clear hrow; have HB1 := Lib.hid hb1; clear hb1; simp only [ksK, List.length_nil, List.length_cons, Nat.zero_add, Nat.reduceAdd]; have hk0 : w1.cell? ⟨b2, off2, none⟩ = some (.string ⟨#[117]⟩) := hcs 0 _ rfl; have hb2l0 : b2 < w1.heap.size := block_lt_of_cell hk0; have hk1 : w1.cell? ⟨b2, off2 + 1, none⟩ = some (.string ⟨#[117]⟩) := hcs 1 _ rfl; have hb2l1 : b2 < w1.heap.size := block_lt_of_cell hk1; clear hcs) | fail)
  have hb3 : Below w.heap.size w w1 := ((Below.refl _ _).alloc (Nat.le_refl _) _).trans (HB1.out.mono (by simp))
  have HB3 := Lib.hid hb3
  clear hb3
  refine wp_loop_rounds 3 ?_
  rw [rounds_succ]
  go_wp2_with (first | (go_at_call 53; refine (may_u a _).mono ?_; rintro e w2 ⟨rfl, rfl⟩) | (at_builtin; refine app1 (w0 := w) w.heap.size rfl _ _ 22 5 .u8 1 rfl Tryd.underlying22 info5 (by decide) _ [(c : Int)] a rfl _ rfl ?h0 ?h1 ?h2 ?h3 ?h4 ?h5) | fail)
  case h0 => simp
  case h1 => exact (own_one w1 w.heap.size c (Nat.le_of_lt hz1)).alloc _
  case h2 => exact (HB3.out.alloc (Nat.le_of_lt hz1) _).alloc (by simp; omega) _
  case h3 => simp; omega
  case h4 => simp
  case h5 =>
    intro v3 w3 ho3 hB3 hg3 hat3
    have hne3 : ∀ x, x < w1.heap.size ∨ x = w1.heap.size + 1 → some x ≠ v3.ownBlock := fun x hx => ne_own (q := w1.heap.size) hat3 rfl (by omega) hx
    have hz3 : w1.heap.size + 2 ≤ w3.heap.size := by have := hg3.size; simp at this; omega
    have hk3_0 : w3.cell? ⟨b2, off2, none⟩ = some (.string ⟨#[117]⟩) := cell_gr hg3 (by simp [Value.ownBlock]; omega) (cell_al (cell_al hk0 _) _)
    have hk3_1 : w3.cell? ⟨b2, off2 + 1, none⟩ = some (.string ⟨#[117]⟩) := cell_gr hg3 (by simp [Value.ownBlock]; omega) (cell_al (cell_al hk1 _) _)
    have hx3 : w3.cell? ⟨w1.heap.size + 1, 1, none⟩ = some (.int .i64 b) := cell_gr hg3 (by simp [Value.ownBlock]) (cell_of_row _ _ 1 _ _ _ (heap_alloc2_new w1 _ _))
    have HO3 := Lib.hid ho3; clear ho3
    have HB3' := Lib.hid hB3; clear hB3; clear hg3 hat3
    have HN3 := Lib.hid hne3; clear hne3; have HZ3 := Lib.hid hz3; clear hz3
    go_wp2_with fail
    rw [rounds_succ]
    go_wp2_with (first | (go_at_call 53; refine (may_u b _).mono ?_; rintro e w2 ⟨rfl, rfl⟩) | fail)
    go_ret2
    exact ⟨_, rfl, own_nil _ _ _ _, HB3'.out⟩

end Go.Proofs.YtkphijabhoppnaaDoor
namespace Go.Proofs.YtkphijabhoppnaaDoor
open Go.RowKit Go.Proofs.YtkphijabhoppnaaDoorW.PrintWords
set_option linter.unusedSimpArgs false
set_option linter.unusedVariables false

/-- Write, as the document has it, of a code that there is: the bytes; or none, and the error. -/
def writeK (c a b : Int) : Nat → List Int × Int
  | 0 => if a = 0 ∧ b = 0 then ([c], 0) else ([], 1)
  | 1 => if inR 1 a ∧ b = 0 then ([c, a], 0) else ([], 1)
  | 2 => if inR 2 a ∧ b = 0 then ([c, a % 256], 0) else ([], 1)
  | 3 => if inR 3 a ∧ b = 0 then ([c, a % 256, a / 256 % 256], 0) else ([], 1)
  | _ => if inR 1 a ∧ inR 1 b then ([c, a, b], 0) else ([], 1)
def writeS (c a b : Int) : List Int × Int := if 0 ≤ c ∧ c ≤ 40 then writeK c a b (opk c) else ([], 5)

theorem u8_mod (x : Int) : IntKind.u8.wrap x = x % 256 := by
  simp [IntKind.wrap, IntKind.signed, IntKind.bits]

theorem write_calls (c a b s : Int) (w : World) (hG : Glob w) :
    Calls Tryd.prog 21 #[.agg #[.int .i64 c, .int .i64 a, .int .i64 b, .int .i64 s]] w (WrPost w (writeS c a b).1 (writeS c a b).2) := by
  unfold writeS
  by_cases hc : 0 ≤ c ∧ c ≤ 40
  · rw [if_pos hc]
    obtain ⟨n, rfl⟩ := Int.eq_ofNat_of_zero_le hc.1
    have hn : n ≤ 40 := by omega
    clear hc
    rcases opk_le n with hk | hk | hk | hk | hk <;> rw [hk] <;> simp only [writeK]
    · by_cases ha : a = 0
      · by_cases hb : b = 0
        · rw [if_pos ⟨ha, hb⟩]; subst ha; subst hb
          exact write_0 n 0 0 s w hG hn hk
        · rw [if_neg (by simp [hb])]; subst ha
          exact write_0b n 0 b s w hG hn hk hb
      · rw [if_neg (by simp [ha])]
        exact write_0a n a b s w hG hn hk ha
    · by_cases ha : inR 1 a
      · by_cases hb : b = 0
        · rw [if_pos ⟨ha, hb⟩]; subst hb
          exact write_1 n a 0 s w hG hn hk ha
        · rw [if_neg (by simp [hb])]
          exact write_1b n a b s w hG hn hk ha hb
      · rw [if_neg (by simp [ha])]
        exact write_1a n a b s w hG hn hk ha
    · by_cases ha : inR 2 a
      · by_cases hb : b = 0
        · rw [if_pos ⟨ha, hb⟩]; subst hb
          have := write_2 n a 0 s w hG hn hk ha
          rw [u8_mod] at this
          exact this
        · rw [if_neg (by simp [hb])]
          exact write_2b n a b s w hG hn hk ha hb
      · rw [if_neg (by simp [ha])]
        exact write_2a n a b s w hG hn hk ha
    · by_cases ha : inR 3 a
      · by_cases hb : b = 0
        · rw [if_pos ⟨ha, hb⟩]; subst hb
          have := write_3 n a 0 s w hG hn hk ha
          rw [u8_mod, u8_mod] at this
          exact this
        · rw [if_neg (by simp [hb])]
          exact write_3b n a b s w hG hn hk ha hb
      · rw [if_neg (by simp [ha])]
        exact write_3a n a b s w hG hn hk ha
    · by_cases ha : inR 1 a
      · by_cases hb : inR 1 b
        · rw [if_pos ⟨ha, hb⟩]
          exact write_4 n a b s w hG hn hk ha hb
        · rw [if_neg (by simp [hb])]
          exact write_4b n a b s w hG hn hk ha hb
      · rw [if_neg (by simp [ha])]
        exact write_4a n a b s w hG hn hk ha
  · rw [if_neg hc]
    exact write_form c a b s w (by omega)
end Go.Proofs.YtkphijabhoppnaaDoor
