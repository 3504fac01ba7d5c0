/- A bytecode written (brazier/code.Write): what an operand may be, and the ways. -/
import Derived.Test.YtkphijabhoppnaaDoorCf
import Derived.Test.YtkphijabhoppnaaDoorWWords
namespace Go.Proofs.YtkphijabhoppnaaDoor
open Go.RowKit Go.Proofs.YtkphijabhoppnaaDoorW.PrintWords
set_option linter.unusedSimpArgs false
set_option linter.unusedVariables false

/-- May an operand of a kind be this? -/
def inR (k : Nat) (v : Int) : Prop := if k = 1 then 0 ≤ v ∧ v ≤ 255 else if k = 2 then -128 ≤ v ∧ v ≤ 127 else -32768 ≤ v ∧ v < 32768
instance (k : Nat) (v : Int) : Decidable (inR k v) := by unfold inR; infer_instance

theorem may_u (v : Int) (w : World) : Calls Tryd.prog 53 #[.string ⟨#[117]⟩, .int .i64 v] w fun e w' => e = .returned (.bool (decide (inR 1 v))) ∧ w = w' := by
  by_cases h0 : 0 ≤ v
  · by_cases h1 : v ≤ 255
    · have e : decide (inR 1 v) = true := decide_eq_true (show 0 ≤ v ∧ v ≤ 255 from ⟨h0, h1⟩)
      rw [e]
      go_enter Tryd.func53, Tryd.ntmps53
      go_wp2_with fail
      go_ret
      exact ⟨rfl, rfl⟩
    · have e : decide (inR 1 v) = false := decide_eq_false (show ¬ (0 ≤ v ∧ v ≤ 255) from fun h => h1 h.2)
      have hd : decide (v ≤ 255) = false := decide_eq_false h1
      rw [e]
      clear h1
      go_enter Tryd.func53, Tryd.ntmps53
      go_wp2_with fail
      go_ret
      exact ⟨rfl, rfl⟩
  · have e : decide (inR 1 v) = false := decide_eq_false (show ¬ (0 ≤ v ∧ v ≤ 255) from fun h => h0 h.1)
    have h2 : v < 0 := by omega
    rw [e]
    clear h0
    go_enter Tryd.func53, Tryd.ntmps53
    go_wp2_with fail
    go_ret
    exact ⟨rfl, rfl⟩
theorem may_s (v : Int) (w : World) : Calls Tryd.prog 53 #[.string ⟨#[115]⟩, .int .i64 v] w fun e w' => e = .returned (.bool (decide (inR 2 v))) ∧ w = w' := by
  by_cases h0 : -128 ≤ v
  · by_cases h1 : v ≤ 127
    · have e : decide (inR 2 v) = true := decide_eq_true (show -128 ≤ v ∧ v ≤ 127 from ⟨h0, h1⟩)
      rw [e]
      go_enter Tryd.func53, Tryd.ntmps53
      go_wp2_with fail
      go_ret
      exact ⟨rfl, rfl⟩
    · have e : decide (inR 2 v) = false := decide_eq_false (show ¬ (-128 ≤ v ∧ v ≤ 127) from fun h => h1 h.2)
      have hd : decide (v ≤ 127) = false := decide_eq_false h1
      rw [e]
      clear h1
      go_enter Tryd.func53, Tryd.ntmps53
      go_wp2_with fail
      go_ret
      exact ⟨rfl, rfl⟩
  · have e : decide (inR 2 v) = false := decide_eq_false (show ¬ (-128 ≤ v ∧ v ≤ 127) from fun h => h0 h.1)
    have h2 : v < -128 := by omega
    rw [e]
    clear h0
    go_enter Tryd.func53, Tryd.ntmps53
    go_wp2_with fail
    go_ret
    exact ⟨rfl, rfl⟩
theorem may_o (v : Int) (w : World) : Calls Tryd.prog 53 #[.string ⟨#[111]⟩, .int .i64 v] w fun e w' => e = .returned (.bool (decide (inR 3 v))) ∧ w = w' := by
  by_cases h0 : -32768 ≤ v
  · by_cases h1 : v < 32768
    · have e : decide (inR 3 v) = true := decide_eq_true (show -32768 ≤ v ∧ v < 32768 from ⟨h0, h1⟩)
      rw [e]
      go_enter Tryd.func53, Tryd.ntmps53
      go_wp2_with fail
      go_ret
      exact ⟨rfl, rfl⟩
    · have e : decide (inR 3 v) = false := decide_eq_false (show ¬ (-32768 ≤ v ∧ v < 32768) from fun h => h1 h.2)
      have hd : decide (v < 32768) = false := decide_eq_false h1
      rw [e]
      clear h1
      go_enter Tryd.func53, Tryd.ntmps53
      go_wp2_with fail
      go_ret
      exact ⟨rfl, rfl⟩
  · have e : decide (inR 3 v) = false := decide_eq_false (show ¬ (-32768 ≤ v ∧ v < 32768) from fun h => h0 h.1)
    have h2 : v < -32768 := by omega
    rw [e]
    clear h0
    go_enter Tryd.func53, Tryd.ntmps53
    go_wp2_with fail
    go_ret
    exact ⟨rfl, rfl⟩

/-- What is wrong, or the bytes: a row of the call's own. -/
def WrPost (w : World) (bs : List Int) (err : Int) (e : Ending) (w' : World) : Prop :=
  ∃ v, e = .returned (.tuple #[v, .int .i64 err]) ∧ w'.ownsRow w.heap.size 5 1 v bs.length (nums .u8 bs) ∧ Below w.heap.size w w'

theorem write_form (c a b s : Int) (w : World) (hc : c < 0 ∨ 40 < c) : Calls Tryd.prog 21 #[.agg #[.int .i64 c, .int .i64 a, .int .i64 b, .int .i64 s]] w (WrPost w [] 5) := by
  have HC := Lib.hid hc
  clear hc
  go_enter Tryd.func21, Tryd.ntmps21
  go_wp2_with (first | (go_at_call 44; refine (parts_out c HC.out _).mono ?_; rintro e w1 ⟨rfl, rfl⟩) | fail)
  go_ret2
  exact ⟨_, rfl, own_nil _ _ _ _, (Below.refl _ _).alloc (Nat.le_refl _) _⟩

theorem info5 : (Tryd.prog.info? 5).map (fun i => (i.zero, i.size, i.bytes)) = some (some (.int .u8 0), 1, 1) := by kernel_rfl

section
variable {P : Program} {ops : Array Oper} {rest : List Oper} {o : Oper} {a : Act} {Q : Exit → Act → World → Prop}
/-- append(v, x), x a whole number: the box's place typed as the walk has it. -/
theorem app1 {w0 W : World} (base : Nat) (hgd : o.guard = none) (s x : Operand) (t e : TypeId) (k : IntKind) (bytes : Nat)
    (ho : o.op = .call { callee := .builtin .append, args := #[s, x], argTypes := #[t, t] })
    (ht : P.underlying t = some (.slice e)) (hinfo : (P.info? e).map (fun i => (i.zero, i.size, i.bytes)) = some (some (.int k 0), 1, bytes)) (hb0 : 0 < bytes)
    (v : Value) (xs : List Int) (y : Int) (hs : a.eval s = v) (adr : Nat) (hx : a.eval x = .slice (some ⟨adr, 0, none⟩) 1 1) (hadr : adr = W.heap.size)
    (HO : W.ownsRow base e 1 v xs.length (nums k xs)) (HB : Below base w0 W) (hbase : base ≤ W.heap.size) (hl : (xs.length + 1) * bytes ≤ 140737488355328)
    (h : ∀ v1 w1, w1.ownsRow base e 1 v1 (xs ++ [y]).length (nums k (xs ++ [y])) → Below base w0 w1 → W.grownBy w1 v.ownBlock → (v1.ownBlock = v.ownBlock ∨ ∃ b, v1.ownBlock = some b ∧ W.heap.size ≤ b) → wpList P ops Q rest (a.put o.dst v1) w1) :
    wpList P ops Q (o :: rest) a (W.alloc (.cells #[.int k y] e)) := by
  subst hadr
  exact print_append_num base hgd s x t e k bytes ho ht hinfo hb0 v xs y hs hx HO HB hbase hl h
end
theorem cell_gr {W w3 : World} {row : Option Nat} {a : Addr} {v : Value} (hg : W.grownBy w3 row) (hne : some a.block ≠ row) (h : W.cell? a = some v) : w3.cell? a = some v :=
  (World.cell?_of_block (w := W) (hg.block a.block (block_lt_of_cell h) hne)).trans h
theorem own_one (W : World) (base : Nat) (x : Int) (hb : base ≤ W.heap.size) :
    (W.alloc (.cells #[.int .u8 x] 5)).ownsRow base 5 1 (.slice (some ⟨W.heap.size, 0, none⟩) 1 1) [x].length (nums .u8 [x]) :=
  own_lit W base 5 .u8 [x] hb (by simp)

end Go.Proofs.YtkphijabhoppnaaDoor
