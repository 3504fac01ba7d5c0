/- Three rows are made, in whatever order (in brazier/verify.method). -/
import Derived.Test.YtkphijabhoppnaaDoorAVm
import Derived.Test.YtkphijabhoppnaaDoorAVn
import Derived.Laws.MakeOwn
namespace Go.Proofs.YtkphijabhoppnaaDoor
open Go.RowKit Go.Shelf Go.Proofs.YtkphijabhoppnaaDoorW.PrintWords
set_option linter.unusedSimpArgs false
set_option linter.unusedVariables false
def zshp (n : Nat) : Obj := .cells (madeCells #[.slice none 0 0, .int .i64 0] (n * 2)) 81
theorem info81 : (Tryd.prog.info? 81).map (fun i => (i.zero, i.size, i.bytes)) = some (some (.agg #[.slice none 0 0, .int .i64 0]), 2, 32) := by kernel_rfl
theorem make72 (n : Nat) (hn : n ≤ 1000000) (w : World) : (Instr.makeSlice 72 (.int .i64 (n : Int)) (.int .i64 (n : Int))).run Tryd.prog w = .ok (.slice (some ⟨w.heap.size, 0, none⟩) n n) (w.alloc (zshp n)) := by
  obtain ⟨i, hi, hzz⟩ := Option.map_eq_some_iff.1 info81
  simp only [Prod.mk.injEq] at hzz
  obtain ⟨hz, hs, hb⟩ := hzz
  have hr := run_make (P := Tryd.prog) w 72 81 i _ (by kernel_rfl) hi hz .i64 .i64 n n (by omega) (Int.le_refl _) (by rw [hb]; omega) (by omega)
  simp only [Int.toNat_natCast, hs] at hr
  exact hr
theorem make73 (n : Nat) (hn : n ≤ 1000000) (w : World) : (Instr.makeSlice 73 (.int .i64 (n : Int)) (.int .i64 (n : Int))).run Tryd.prog w = .ok (.slice (some ⟨w.heap.size, 0, none⟩) n n) (w.alloc (bools4 (List.replicate n false))) := by
  have := run_make_row' (P := Tryd.prog) 73 4 (.bool false) 1 (by kernel_rfl) (by kernel_rfl) rfl .i64 .i64 n (by omega) (by omega) w
  rw [made_bools] at this
  exact this
def RwB (s n : Nat) (w : World) (v : Value) : Prop := ∃ g, v = .slice (some ⟨g, 0, none⟩) n n ∧ s ≤ g ∧ w.heap[g]? = some (bools4 (List.replicate n false))
def RwS (s n : Nat) (w : World) (v : Value) : Prop := ∃ g, v = .slice (some ⟨g, 0, none⟩) n n ∧ s ≤ g ∧ w.heap[g]? = some (zshp n)
section
variable {s n : Nat} {w : World} {v : Value}
theorem RwB.alloc (h : RwB s n w v) (o : Obj) : RwB s n (w.alloc o) v := by obtain ⟨g, e, h1, h2⟩ := h; exact ⟨g, e, h1, row_alloc h2 o⟩
theorem RwS.alloc (h : RwS s n w v) (o : Obj) : RwS s n (w.alloc o) v := by obtain ⟨g, e, h1, h2⟩ := h; exact ⟨g, e, h1, row_alloc h2 o⟩
theorem RwB.set {G k : Nat} (h : RwB s n w v) (hG : G < s) (u : Value) : RwB s n (w.setCell ⟨G, k, none⟩ u) v := by obtain ⟨g, e, h1, h2⟩ := h; exact ⟨g, e, h1, (heap_setCell_other _ ⟨G, k, none⟩ g _ (show g ≠ G by omega)).trans h2⟩
theorem RwS.set {G k : Nat} (h : RwS s n w v) (hG : G < s) (u : Value) : RwS s n (w.setCell ⟨G, k, none⟩ u) v := by obtain ⟨g, e, h1, h2⟩ := h; exact ⟨g, e, h1, (heap_setCell_other _ ⟨G, k, none⟩ g _ (show g ≠ G by omega)).trans h2⟩
theorem RwB.new (hs : s ≤ w.heap.size) : RwB s n (w.alloc (bools4 (List.replicate n false))) (.slice (some ⟨w.heap.size, 0, none⟩) n n) := ⟨_, rfl, hs, heap_alloc_new w _⟩
theorem RwS.new (hs : s ≤ w.heap.size) : RwS s n (w.alloc (zshp n)) (.slice (some ⟨w.heap.size, 0, none⟩) n n) := ⟨_, rfl, hs, heap_alloc_new w _⟩
theorem RwB.old (h : RwB s n w v) (n2 : Nat) : v ≠ .slice (some ⟨w.heap.size, 0, none⟩) n2 n2 := by
  obtain ⟨g, rfl, h1, h2⟩ := h
  intro e
  have hlt := (Array.getElem?_eq_some_iff.1 h2).1
  injection e with e1
  injection e1 with e1
  injection e1 with e1
  omega
end
structure Mk (w : World) (s n G T : Nat) (ob : Value → Value → Value → Obj) (L : Array Bool) (w' : World) (u1 u2 u3 x1 x2 x3 : Value) : Prop where
  g : w'.heap[G]? = some (ob x1 x2 x3)
  t : Boxed w' T 126 (.pointer (some ⟨G, 0, none⟩))
  b : Below w.heap.size w w'
  sz : s ≤ w'.heap.size
  m1 : L.getD 4 false = true → RwB s n w' u1
  m2 : L.getD 6 false = true → RwS s n w' u2
  m3 : L.getD 8 false = true → RwB s n w' u3
  d : L.getD 4 false = true → L.getD 8 false = true → u1 ≠ u3
  c1 : L.getD 11 false = true → L.getD 4 false = true ∧ x1 = u1
  c2 : L.getD 14 false = true → L.getD 6 false = true ∧ x2 = u2
  c3 : L.getD 17 false = true → L.getD 8 false = true ∧ x3 = u3
section
variable {w w' : World} {s n G T : Nat} {ob : Value → Value → Value → Obj} {L : Array Bool} {u1 u2 u3 x1 x2 x3 : Value}
theorem Mk.other (h : Mk w s n G T ob L w' u1 u2 u3 x1 x2 x3) (i : Nat) (hi : i ≠ 4 ∧ i ≠ 6 ∧ i ≠ 8 ∧ i ≠ 11 ∧ i ≠ 14 ∧ i ≠ 17) : Mk w s n G T ob (L.setIfInBounds i true) w' u1 u2 u3 x1 x2 x3 := by
  obtain ⟨h4, h6, h8, h11, h14, h17⟩ := hi
  exact ⟨h.g, h.t, h.b, h.sz, fun k => h.m1 ((ld_ne h4).symm.trans k), fun k => h.m2 ((ld_ne h6).symm.trans k), fun k => h.m3 ((ld_ne h8).symm.trans k), fun k l => h.d ((ld_ne h4).symm.trans k) ((ld_ne h8).symm.trans l),
    fun k => have := h.c1 ((ld_ne h11).symm.trans k); ⟨(ld_ne h4).trans this.1, this.2⟩, fun k => have := h.c2 ((ld_ne h14).symm.trans k); ⟨(ld_ne h6).trans this.1, this.2⟩, fun k => have := h.c3 ((ld_ne h17).symm.trans k); ⟨(ld_ne h8).trans this.1, this.2⟩⟩
theorem Mk.make1 (h : Mk w s n G T ob L w' u1 u2 u3 x1 x2 x3) (h0 : L.getD 4 false = false) (hw : w.heap.size ≤ s) : Mk w s n G T ob (L.setIfInBounds 4 true) (w'.alloc (bools4 (List.replicate n false))) (.slice (some ⟨w'.heap.size, 0, none⟩) n n) u2 u3 x1 x2 x3 :=
  ⟨row_alloc h.g _, h.t.alloc _, h.b.alloc (Nat.le_trans hw h.sz) _, by have := h.sz; simp; omega, fun _ => RwB.new h.sz, fun k => (h.m2 ((ld_ne (by decide)).symm.trans k)).alloc _, fun k => (h.m3 ((ld_ne (by decide)).symm.trans k)).alloc _,
    fun _ k => ((h.m3 ((ld_ne (by decide)).symm.trans k)).old n).symm,
    fun k => absurd (h.c1 ((ld_ne (by decide)).symm.trans k)).1 (by rw [h0]; simp),
    fun k => have := h.c2 ((ld_ne (by decide)).symm.trans k); ⟨(ld_ne (by decide)).trans this.1, this.2⟩, fun k => have := h.c3 ((ld_ne (by decide)).symm.trans k); ⟨(ld_ne (by decide)).trans this.1, this.2⟩⟩
theorem Mk.make2 (h : Mk w s n G T ob L w' u1 u2 u3 x1 x2 x3) (h0 : L.getD 6 false = false) (hw : w.heap.size ≤ s) : Mk w s n G T ob (L.setIfInBounds 6 true) (w'.alloc (zshp n)) u1 (.slice (some ⟨w'.heap.size, 0, none⟩) n n) u3 x1 x2 x3 :=
  ⟨row_alloc h.g _, h.t.alloc _, h.b.alloc (Nat.le_trans hw h.sz) _, by have := h.sz; simp; omega, fun k => (h.m1 ((ld_ne (by decide)).symm.trans k)).alloc _, fun _ => RwS.new h.sz, fun k => (h.m3 ((ld_ne (by decide)).symm.trans k)).alloc _,
    fun k l => h.d ((ld_ne (by decide)).symm.trans k) ((ld_ne (by decide)).symm.trans l),
    fun k => have := h.c1 ((ld_ne (by decide)).symm.trans k); ⟨(ld_ne (by decide)).trans this.1, this.2⟩,
    fun k => absurd (h.c2 ((ld_ne (by decide)).symm.trans k)).1 (by rw [h0]; simp), fun k => have := h.c3 ((ld_ne (by decide)).symm.trans k); ⟨(ld_ne (by decide)).trans this.1, this.2⟩⟩
theorem Mk.make3 (h : Mk w s n G T ob L w' u1 u2 u3 x1 x2 x3) (h0 : L.getD 8 false = false) (hw : w.heap.size ≤ s) : Mk w s n G T ob (L.setIfInBounds 8 true) (w'.alloc (bools4 (List.replicate n false))) u1 u2 (.slice (some ⟨w'.heap.size, 0, none⟩) n n) x1 x2 x3 :=
  ⟨row_alloc h.g _, h.t.alloc _, h.b.alloc (Nat.le_trans hw h.sz) _, by have := h.sz; simp; omega, fun k => (h.m1 ((ld_ne (by decide)).symm.trans k)).alloc _, fun k => (h.m2 ((ld_ne (by decide)).symm.trans k)).alloc _, fun _ => RwB.new h.sz,
    fun k _ => (h.m1 ((ld_ne (by decide)).symm.trans k)).old n,
    fun k => have := h.c1 ((ld_ne (by decide)).symm.trans k); ⟨(ld_ne (by decide)).trans this.1, this.2⟩, fun k => have := h.c2 ((ld_ne (by decide)).symm.trans k); ⟨(ld_ne (by decide)).trans this.1, this.2⟩,
    fun k => absurd (h.c3 ((ld_ne (by decide)).symm.trans k)).1 (by rw [h0]; simp)⟩
theorem Mk.store1 (h : Mk w s n G T ob L w' u1 u2 u3 x1 x2 x3) (h0 : L.getD 4 false = true) (hG : G < s) (hw : w.heap.size ≤ G) (hT : T ≠ G) (ho : (w'.setCell ⟨G, 8, none⟩ u1).heap[G]? = some (ob u1 x2 x3)) : Mk w s n G T ob (L.setIfInBounds 11 true) (w'.setCell ⟨G, 8, none⟩ u1) u1 u2 u3 u1 x2 x3 :=
  ⟨ho, (heap_setCell_other _ ⟨G, 8, none⟩ T _ hT).trans h.t, h.b.setCell (p := ⟨G, 8, none⟩) hw _, by have := h.sz; simpa using this, fun k => (h.m1 ((ld_ne (by decide)).symm.trans k)).set hG _, fun k => (h.m2 ((ld_ne (by decide)).symm.trans k)).set hG _, fun k => (h.m3 ((ld_ne (by decide)).symm.trans k)).set hG _,
    fun k l => h.d ((ld_ne (by decide)).symm.trans k) ((ld_ne (by decide)).symm.trans l), fun _ => ⟨(ld_ne (by decide)).trans h0, rfl⟩,
    fun k => have := h.c2 ((ld_ne (by decide)).symm.trans k); ⟨(ld_ne (by decide)).trans this.1, this.2⟩, fun k => have := h.c3 ((ld_ne (by decide)).symm.trans k); ⟨(ld_ne (by decide)).trans this.1, this.2⟩⟩
theorem Mk.store2 (h : Mk w s n G T ob L w' u1 u2 u3 x1 x2 x3) (h0 : L.getD 6 false = true) (hG : G < s) (hw : w.heap.size ≤ G) (hT : T ≠ G) (ho : (w'.setCell ⟨G, 9, none⟩ u2).heap[G]? = some (ob x1 u2 x3)) : Mk w s n G T ob (L.setIfInBounds 14 true) (w'.setCell ⟨G, 9, none⟩ u2) u1 u2 u3 x1 u2 x3 :=
  ⟨ho, (heap_setCell_other _ ⟨G, 9, none⟩ T _ hT).trans h.t, h.b.setCell (p := ⟨G, 9, none⟩) hw _, by have := h.sz; simpa using this, fun k => (h.m1 ((ld_ne (by decide)).symm.trans k)).set hG _, fun k => (h.m2 ((ld_ne (by decide)).symm.trans k)).set hG _, fun k => (h.m3 ((ld_ne (by decide)).symm.trans k)).set hG _,
    fun k l => h.d ((ld_ne (by decide)).symm.trans k) ((ld_ne (by decide)).symm.trans l), fun k => have := h.c1 ((ld_ne (by decide)).symm.trans k); ⟨(ld_ne (by decide)).trans this.1, this.2⟩,
    fun _ => ⟨(ld_ne (by decide)).trans h0, rfl⟩, fun k => have := h.c3 ((ld_ne (by decide)).symm.trans k); ⟨(ld_ne (by decide)).trans this.1, this.2⟩⟩
theorem Mk.store3 (h : Mk w s n G T ob L w' u1 u2 u3 x1 x2 x3) (h0 : L.getD 8 false = true) (hG : G < s) (hw : w.heap.size ≤ G) (hT : T ≠ G) (ho : (w'.setCell ⟨G, 10, none⟩ u3).heap[G]? = some (ob x1 x2 u3)) : Mk w s n G T ob (L.setIfInBounds 17 true) (w'.setCell ⟨G, 10, none⟩ u3) u1 u2 u3 x1 x2 u3 :=
  ⟨ho, (heap_setCell_other _ ⟨G, 10, none⟩ T _ hT).trans h.t, h.b.setCell (p := ⟨G, 10, none⟩) hw _, by have := h.sz; simpa using this, fun k => (h.m1 ((ld_ne (by decide)).symm.trans k)).set hG _, fun k => (h.m2 ((ld_ne (by decide)).symm.trans k)).set hG _, fun k => (h.m3 ((ld_ne (by decide)).symm.trans k)).set hG _,
    fun k l => h.d ((ld_ne (by decide)).symm.trans k) ((ld_ne (by decide)).symm.trans l), fun k => have := h.c1 ((ld_ne (by decide)).symm.trans k); ⟨(ld_ne (by decide)).trans this.1, this.2⟩,
    fun k => have := h.c2 ((ld_ne (by decide)).symm.trans k); ⟨(ld_ne (by decide)).trans this.1, this.2⟩, fun _ => ⟨(ld_ne (by decide)).trans h0, rfl⟩⟩
theorem Mk.drewN (h : Mk w s n G T ob L w' u1 u2 u3 x1 x2 x3) (k : Nat) : Mk w s n G T ob L (w'.drewN k) u1 u2 u3 x1 x2 x3 :=
  ⟨h.g, h.t, below_drewN0 h.b k, h.sz, h.m1, h.m2, h.m3, h.d, h.c1, h.c2, h.c3⟩
end
end Go.Proofs.YtkphijabhoppnaaDoor
