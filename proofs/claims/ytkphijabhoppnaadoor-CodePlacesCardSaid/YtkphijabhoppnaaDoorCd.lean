/- A bytecode read (brazier/code.Read). -/
import Derived.Test.YtkphijabhoppnaaDoorCc
namespace Go.Proofs.YtkphijabhoppnaaDoor
open Go.RowKit
set_option linter.unusedSimpArgs false
set_option linter.unusedVariables false

/-- What a bytecode is read as; and the error. -/
structure Rd where
  code : Int
  a : Int
  b : Int
  size : Int
  err : Int
def Rd.val (r : Rd) : Value := .tuple #[.agg #[.int .i64 r.code, .int .i64 r.a, .int .i64 r.b, .int .i64 r.size], .int .i64 r.err]

theorem read_arg (A : Option Addr) (n c : Nat) (at' : Int) (w : World) (h : at' < 0 ∨ (n : Int) < at') :
    Calls Tryd.prog 13 #[.slice A n c, .int .i64 at'] w fun e w' => e = .returned (Rd.val ⟨0, 0, 0, 0, 1⟩) ∧ Below w.heap.size w w' := by
  by_cases h0 : at' < 0
  · clear h
    go_enter Tryd.func13, Tryd.ntmps13
    go_wp2_with fail
    exact bodyPost_ret (v := Rd.val ⟨0, 0, 0, 0, 1⟩) (by simp [Rd.val, results, Tryd.results13, go_sem]) rfl ⟨rfl, (Below.refl _ _).alloc (Nat.le_refl _) _⟩
  · have h2 : (n : Int) < at' := by omega
    clear h
    go_enter Tryd.func13, Tryd.ntmps13
    go_wp2_with fail
    exact bodyPost_ret (v := Rd.val ⟨0, 0, 0, 0, 1⟩) (by simp [Rd.val, results, Tryd.results13, go_sem]) rfl ⟨rfl, (Below.refl _ _).alloc (Nat.le_refl _) _⟩

theorem read_end (A : Option Addr) (n c : Nat) (w : World) :
    Calls Tryd.prog 13 #[.slice A n c, .int .i64 n] w fun e w' => e = .returned (Rd.val ⟨0, 0, 0, 0, 6⟩) ∧ Below w.heap.size w w' := by
  go_enter Tryd.func13, Tryd.ntmps13
  go_wp2_with fail
  exact bodyPost_ret (v := Rd.val ⟨0, 0, 0, 0, 6⟩) (by simp [Rd.val, results, Tryd.results13, go_sem]) rfl ⟨rfl, (Below.refl _ _).alloc (Nat.le_refl _) _⟩

/-- The bytes' bounds, and where the code lies. -/
theorem read_form (b off n c i : Nat) (x : Int) (w : World) (hi : i < n) (hx : 40 < x) (hx1 : x ≤ 255) (hc : w.cell? ⟨b, off + i, none⟩ = some (.int .u8 x)) :
    Calls Tryd.prog 13 #[.slice (some ⟨b, off, none⟩) n c, .int .i64 i] w fun e w' => e = .returned (Rd.val ⟨0, 0, 0, 0, 5⟩) ∧ Below w.heap.size w w' := by
  have hbl := block_lt_of_cell hc
  have t1 : ((i : Int) == n) = false := by simp; omega
  go_enter Tryd.func13, Tryd.ntmps13
  go_wp2_with (first | (go_at_call 44; refine (parts_out x (.inr hx) _).mono ?_; rintro e w1 ⟨rfl, rfl⟩) | fail)
  exact bodyPost_ret (v := Rd.val ⟨0, 0, 0, 0, 5⟩) (by simp [Rd.val, results, Tryd.results13, go_sem]) rfl ⟨rfl, (Below.refl _ _).alloc (Nat.le_refl _) _⟩

theorem nm_ne' : ∀ n : Nat, n < 41 → (nmC n).isEmpty = false := by decide +kernel
theorem bcell {W w1 : World} (hb : Below W.heap.size W w1) : (∀ b o, b < W.heap.size → w1.cell? ⟨b, o, none⟩ = W.cell? ⟨b, o, none⟩) ∧ (∀ b o, b < W.heap.size → w1.frozen? ⟨b, o, none⟩ = W.frozen? ⟨b, o, none⟩) :=
  ⟨fun b o h => hb.cell (p := ⟨b, o, none⟩) h, fun b o h => hb.frozen (p := ⟨b, o, none⟩) h⟩

theorem row_kept {W w1 : World} {g : Nat} {o : Obj} (hb : Below W.heap.size W w1) (h : W.heap[g]? = some o) : w1.heap[g]? = some o :=
  (hb.block g (Array.getElem?_eq_some_iff.1 h).1).trans h
theorem row_alloc {w : World} {g : Nat} {o : Obj} (h : w.heap[g]? = some o) (p : Obj) : (w.alloc p).heap[g]? = some o :=
  (Below.heap_alloc w p g (Array.getElem?_eq_some_iff.1 h).1).trans h
theorem all4 (a b c d : Int) : (#[Value.int .i64 a, .int .i64 b, .int .i64 c, .int .i64 d].all fun x => x.oneCell') = true := by
  simp [Value.oneCell']
theorem results13 {tmps : Array Value} {W : World} {g : Nat} {fr : Nat × Nat} (r : Rd) (h4 : tmps.getD 4 undef = .pointer (some ⟨g, 0, none⟩)) (h5 : tmps.getD 5 undef = .int .i64 r.err)
    (hrow : W.heap[g]? = some (.cells #[.int .i64 r.code, .int .i64 r.a, .int .i64 r.b, .int .i64 r.size] 25 fr)) : (results Tryd.f13 tmps).run Tryd.prog W = .ok r.val W := by
  rw [results_cell_tmp (fn := Tryd.f13) rfl, h4, h5]
  simp only [asAddr, Sem.run_pure, Result.andThen_ok, run_loadVar_row W g 25 25 _ fr _ hrow Tryd.underlying25 rfl (by kernel_rfl)]
  rfl
/-- The name, and the operands' kinds written out. -/
theorem parts_k (c k : Nat) (h1 : c ≤ 40) (hk : opk c = k) (w : World) (hG : Glob w) : Calls Tryd.prog 44 #[.int .i64 c] w (PartsPost w c k) := hk ▸ parts_in c h1 w hG

theorem read_k0 (b off n c i x : Nat) (w : World) (hG : Glob w) (hi : i < n) (hx : x ≤ 40) (hk : opk x = 0) (hc : w.cell? ⟨b, off + i, none⟩ = some (.int .u8 x)) :
    Calls Tryd.prog 13 #[.slice (some ⟨b, off, none⟩) n c, .int .i64 i] w fun e w' => e = .returned (Rd.val ⟨x, 0, 0, 1, 0⟩) ∧ Below w.heap.size w w' := by
  have hbl : b < w.heap.size := block_lt_of_cell hc
  have t1 : ((i : Int) == n) = false := by simp; omega
  have HK := Lib.hid hk
  have HG := Lib.hid hG
  have hne := nm_ne' x (by omega)
  have t2 : decide ((i : Int) < 0) = false := by simp
  have t3 : decide (n < i) = false := by simp; omega
  clear hk hG
  go_enter Tryd.func13, Tryd.ntmps13
  go_wp2_with (first | (go_at_call 44; refine (parts_k x 0 hx HK.out _ (HG.out.below ((Below.refl _ _).alloc (Nat.le_refl _) _))).mono ?_; rintro e w1 ⟨hb1, b2, off2, cap2, hb2, rfl, -⟩; obtain ⟨hcw, hfw⟩ := bcell hb1; have hz1 : w.heap.size + 1 ≤ w1.heap.size := (by have := hb1.size; simp at this; omega); have hrow := row_kept hb1 (heap_alloc_new w _); have HB1 := Lib.hid hb1; clear hb1; simp only [ksK, List.length_nil]) | fail)
  refine wp_loop_rounds 1 ?_
  rw [rounds_succ]
  go_wp2_with fail
  go_region
  go_wp2_with (refine wpList_store_row rfl 25 _ _ rfl w.heap.size #[.int .i64 x, .int .i64 0, .int .i64 0, .int .i64 1] rfl rfl 25 _ (row_alloc (row_alloc hrow _) _) (by kernel_rfl) (by rfl) (all4 _ _ _ _) ?_)
  refine bodyPost_ret (v := Rd.val ⟨x, 0, 0, 1, 0⟩) (results13 ⟨x, 0, 0, 1, 0⟩ rfl rfl (setRow_heap _ _ _ _ _ _ (row_alloc (row_alloc hrow _) _))) rfl ⟨rfl, ?_⟩
  have hb3 : Below w.heap.size w w1 := ((Below.refl _ _).alloc (Nat.le_refl _) _).trans (HB1.out.mono (by simp))
  exact below_setRow (((hb3.alloc hb3.size _).alloc (by simp; omega) _).drew) (Nat.le_refl _) _
end Go.Proofs.YtkphijabhoppnaaDoor
