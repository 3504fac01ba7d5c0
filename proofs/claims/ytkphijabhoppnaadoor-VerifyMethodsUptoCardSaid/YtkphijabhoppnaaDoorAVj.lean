/- A place that has no shape yet gets one (reach). -/
import Derived.Test.YtkphijabhoppnaaDoorAVi
import Derived.Deep.RegionHeld3
namespace Go.Proofs.YtkphijabhoppnaaDoor
open Go.RowKit Go.Proofs.YtkphijabhoppnaaDoorW.PrintWords
set_option linter.unusedSimpArgs false
set_option linter.unusedVariables false
theorem set_list {W : World} {g : Nat} {l : List Value} {t : TypeId} (h : W.heap[g]? = some (Obj.cells l.toArray t (0, 0))) (j : Nat) (u : Value) (h1 : u.oneCell' = true) (hj : j < l.length) :
    (W.setCell ⟨g, j, none⟩ u).heap[g]? = some (Obj.cells (l.set j u).toArray t (0, 0)) := blk_put h j u (by simp)
theorem wk_set {E : Env} {base : Nat} {W : World} {sh : List Shp} {has : List Bool} (h : WkI E base W sh has) {i : Nat} (hi : i < E.n) (s : Shp) {v : Value} (ho : W.ownsRow base 3 1 v s.1.length (nums .i64 s.1)) :
    WkI E base (((W.setCell ⟨E.gh, i, none⟩ (.bool true)).setCell ⟨E.gs, i * 2, none⟩ v).setCell ⟨E.gs, i * 2 + 1, none⟩ (.int .i64 s.2)) (sh.set i s) (has.set i true) := by
  obtain ⟨cs, hcs, hsl, hsh⟩ := h.ss
  have n1 : E.G ≠ E.gh := fun e => by have h1 := h.blk; have h2 := h.hh; rw [e, h2] at h1; simp [bools4] at h1
  have n2 : E.G ≠ E.gs := fun e => by have h1 := h.blk; rw [e, hcs] at h1; simp at h1
  have n3 : E.gh ≠ E.gs := fun e => by have h1 := h.hh; rw [e, hcs] at h1; simp [bools4] at h1
  have n4 : E.gb ≠ E.gs := fun e => by have h1 := h.bb; rw [e, hcs] at h1; simp [bools4] at h1
  obtain ⟨A, c, hv⟩ := own_slice ho
  have v1 : v.oneCell' = true := by rw [hv]; rfl
  have far : ∀ k, k ≠ E.gs → k ≠ E.gh → (((W.setCell ⟨E.gh, i, none⟩ (.bool true)).setCell ⟨E.gs, i * 2, none⟩ v).setCell ⟨E.gs, i * 2 + 1, none⟩ (.int .i64 s.2)).heap[k]? = W.heap[k]? := fun k h1 h2 => by
    rw [Below.heap_setCell _ ⟨E.gs, i * 2 + 1, none⟩ _ k h1, Below.heap_setCell _ ⟨E.gs, i * 2, none⟩ _ k h1, Below.heap_setCell _ ⟨E.gh, i, none⟩ _ k h2]
  have hlh := h.lh
  have c1 := set_list (l := has.map Value.bool) h.hh i (.bool true) rfl (by rw [List.length_map]; omega)
  have c2 : (W.setCell ⟨E.gh, i, none⟩ (.bool true)).heap[E.gs]? = some (.cells cs.toArray 81 (0, 0)) := (Below.heap_setCell _ ⟨E.gh, i, none⟩ _ E.gs (Ne.symm n3)).trans hcs
  have c3 := set_list c2 (i * 2) v v1 (by omega)
  have c4 := set_list c3 (i * 2 + 1) (.int .i64 s.2) rfl (by rw [List.length_set]; omega)
  refine ⟨(far _ n2 n1).trans h.blk, (far _ n4 h.ne).trans h.bb, ?_, ⟨_, c4, by rw [List.length_set, List.length_set]; exact hsl, fun j hj => ?_⟩, h.lb, by rw [List.length_set]; exact h.lh, by rw [List.length_set]; exact h.ls, h.hn, h.loG, h.los, h.loh, h.ne⟩
  · rw [Below.heap_setCell _ ⟨E.gs, i * 2 + 1, none⟩ _ E.gh n3, Below.heap_setCell _ ⟨E.gs, i * 2, none⟩ _ E.gh n3, c1]
    unfold bools4
    rw [List.map_set]
  · have mv : ∀ {u : Value} {l : List Int}, W.ownsRow base 3 1 u l.length (nums .i64 l) → (((W.setCell ⟨E.gh, i, none⟩ (.bool true)).setCell ⟨E.gs, i * 2, none⟩ v).setCell ⟨E.gs, i * 2 + 1, none⟩ (.int .i64 s.2)).ownsRow base 3 1 u l.length (nums .i64 l) := fun hu => own_move hu fun k hk => by
      obtain ⟨cells, hc⟩ := own_typed hu k hk
      refine far k (fun e => ?_) (fun e => ?_)
      · rw [e, hcs] at hc; simp at hc
      · have h2 := h.hh; rw [e, h2] at hc; simp [bools4] at hc
    have hls := h.ls
    by_cases hij : i = j
    · subst hij
      refine ⟨v, ?_, ?_, ?_⟩
      · rw [List.getElem?_set_ne (by omega), show 2 * i = i * 2 by omega, List.getElem?_set_self (by omega)]
      · rw [show 2 * i + 1 = i * 2 + 1 by omega, List.getElem?_set_self (by rw [List.length_set]; omega)]
        rw [List.getD_eq_getElem?_getD, List.getElem?_set_self (by omega)]
        rfl
      · have e : (sh.set i s).getD i ([], 0) = s := by rw [List.getD_eq_getElem?_getD, List.getElem?_set_self (by omega)]; rfl
        rw [e]
        exact mv ho
    · obtain ⟨u, h1, h2, h3⟩ := hsh j hj
      have e : (sh.set i s).getD j ([], 0) = sh.getD j ([], 0) := by rw [List.getD_eq_getElem?_getD, List.getElem?_set_ne hij, ← List.getD_eq_getElem?_getD]
      rw [e]
      refine ⟨u, ?_, ?_, mv h3⟩
      · rw [List.getElem?_set_ne (by omega), List.getElem?_set_ne (by omega)]; exact h1
      · rw [List.getElem?_set_ne (by omega), List.getElem?_set_ne (by omega)]; exact h2
section
variable {E : Env} {w0 W : World} {sh : List Shp} {has : List Bool} {S0 : Option Addr} {sc : Nat}
set_option maxRecDepth 100000 in
set_option maxHeartbeats 1600000 in
theorem reach_new (hW : WkI E w0.heap.size W sh has) (hb : Below w0.heap.size w0 W) (i : Nat) (s : Shp) (hi : i < E.n) (hhas : has.getD i false = false) (hs : Kd.C (Kd.int .i64) W S0 s.1.length s.1) (hsc : s.1.length ≤ sc) (hl : s.1.length ≤ 100000) :
    Calls Tryd.prog 163 #[.pointer (some ⟨E.G, 0, none⟩), .int .i64 i, .agg #[.slice S0 s.1.length sc, .int .i64 s.2]] W (RePost E w0 W ((sh.set i s, has.set i true), 0)) := by
  obtain ⟨x8, x9, x10⟩ := cells11 hW.blk
  have xh := cell_bools hW.hh i (by rw [hW.lh]; exact hi)
  rw [hhas] at xh
  obtain ⟨cs, hcs, hsl, hsh⟩ := hW.ss
  have hn := hW.hn
  have fh := Lib.frozen_of_heap hW.hh i
  have fs := Lib.frozen_of_heap hcs (i * 2)
  have fs1 := Lib.frozen_of_heap hcs (i * 2 + 1)
  have y0 : ∃ v, W.cell? ⟨E.gs, i * 2, none⟩ = some v := by
    obtain ⟨v, hv, -, -⟩ := hsh i hi
    exact ⟨v, by rw [cell_of_row _ _ _ _ _ _ hcs]; simpa [Nat.mul_comm] using hv⟩
  have y1 : ∃ v, W.cell? ⟨E.gs, i * 2 + 1, none⟩ = some v := by
    obtain ⟨v, -, hv, -⟩ := hsh i hi
    exact ⟨_, by rw [cell_of_row _ _ _ _ _ _ hcs]; simpa [Nat.mul_comm] using hv⟩
  obtain ⟨v0, y0⟩ := y0
  obtain ⟨v1, y1⟩ := y1
  have hG : E.G < W.heap.size := block_lt_of_cell x8
  have hgs : E.gs < W.heap.size := block_lt_of_cell y0
  have hgh : E.gh < W.heap.size := block_lt_of_cell xh
  have n1 : E.G ≠ E.gh := fun e => by have h1 := hW.blk; have h2 := hW.hh; rw [e, h2] at h1; simp [bools4] at h1
  have n2 : E.G ≠ E.gs := fun e => by have h1 := hW.blk; rw [e, hcs] at h1; simp at h1
  have n3 : E.gh ≠ E.gs := fun e => by have h1 := hW.hh; rw [e, hcs] at h1; simp [bools4] at h1
  have m1 : W.heap.size ≠ E.gh := by omega
  have m2 : W.heap.size ≠ E.gs := by omega
  have HW := Lib.hid hW
  have HB := Lib.hid hb
  have HS := Lib.hid hs
  have ht : decide ((E.n : Int) ≤ (i : Int)) = false := by simp; omega
  have i0 : (0 : Int) ≤ (i : Int) := by omega
  have i1 : (i : Int) < (E.n : Int) := by omega
  have HI := Lib.hid hi
  clear hW hb hs hcs hsl hsh hhas hi
  go_enter Tryd.func163, Tryd.ntmps163
  go_wp2_with fail
  obtain ⟨k0, k1⟩ := cells2V (heap_alloc_new W (.cells #[.slice S0 s.1.length sc, .int .i64 s.2] 81))
  have hA : Below W.heap.size W (W.alloc (.cells #[.slice S0 s.1.length sc, .int .i64 s.2] 81)) := (Below.refl _ _).alloc (Nat.le_refl _) _
  have z9 := cell_be hA x9
  have z10 := cell_be hA x10
  have zh := cell_be hA xh
  have z0 := cell_be hA y0
  have z1 := cell_be hA y1
  have HA := Lib.hid hA
  have hsz : (W.alloc (.cells #[.slice S0 s.1.length sc, .int .i64 s.2] 81)).heap.size = W.heap.size + 1 := by simp
  generalize W.alloc (.cells #[.slice S0 s.1.length sc, .int .i64 s.2] 81) = V at k0 k1 HA z9 z10 zh z0 z1 hsz ⊢
  have HSZ := Lib.hid hsz
  clear hA x8 x9 x10 xh y0 y1 fh fs fs1 hsz
  have g1 : E.gh < V.heap.size := block_lt_of_cell zh
  have g2 : E.gs < V.heap.size := block_lt_of_cell z0
  have fh := Lib.frozen_of_heap (HW.out.below HA.out).hh i
  obtain ⟨cs, hcs, -⟩ := (HW.out.below HA.out).ss
  have fs := Lib.frozen_of_heap hcs (i * 2)
  have fs1 := Lib.frozen_of_heap hcs (i * 2 + 1)
  clear hcs
  go_region_held3 (fun w' => w'.cell? ⟨E.G, 9, none⟩ = some (.slice (some ⟨E.gs, 0, none⟩) E.n E.n) ∧ w'.cell? ⟨E.G, 10, none⟩ = some (.slice (some ⟨E.gh, 0, none⟩) E.n E.n) ∧ w'.cell? ⟨W.heap.size, 0, none⟩ = some (.slice S0 s.1.length sc) ∧ w'.cell? ⟨W.heap.size, 1, none⟩ = some (.int .i64 s.2))
    (first | go_keep | (exact ⟨cell_be hb1 z9, cell_be hb1 z10, cell_be hb1 k0, cell_be hb1 k1⟩) | (exact ⟨(cell_far (p := ⟨E.gh, i, none⟩) n1 _).trans (cell_be hb1 z9), (cell_far (p := ⟨E.gh, i, none⟩) n1 _).trans (cell_be hb1 z10), (cell_far (p := ⟨E.gh, i, none⟩) m1 _).trans (cell_be hb1 k0), (cell_far (p := ⟨E.gh, i, none⟩) m1 _).trans (cell_be hb1 k1)⟩) | (exact ⟨(cell_far (p := ⟨E.gs, i * 2 + 1, none⟩) n2 _).trans ((cell_far (p := ⟨E.gs, i * 2, none⟩) n2 _).trans ((cell_far (p := ⟨E.gh, i, none⟩) n1 _).trans (cell_be hb1 z9))), (cell_far (p := ⟨E.gs, i * 2 + 1, none⟩) n2 _).trans ((cell_far (p := ⟨E.gs, i * 2, none⟩) n2 _).trans ((cell_far (p := ⟨E.gh, i, none⟩) n1 _).trans (cell_be hb1 z10))), (cell_far (p := ⟨E.gs, i * 2 + 1, none⟩) m2 _).trans ((cell_far (p := ⟨E.gs, i * 2, none⟩) m2 _).trans ((cell_far (p := ⟨E.gh, i, none⟩) m1 _).trans (cell_be hb1 k0))), (cell_far (p := ⟨E.gs, i * 2 + 1, none⟩) m2 _).trans ((cell_far (p := ⟨E.gs, i * 2, none⟩) m2 _).trans ((cell_far (p := ⟨E.gh, i, none⟩) m1 _).trans (cell_be hb1 k1)))⟩))
    ((go_at_call 109; refine (clone_calls (Kd.C_below HS.out HA.out.drew) (by omega)).mono ?_; rintro e w1 ⟨v1, rfl, ho1, hb1⟩; obtain ⟨O, oc, rfl⟩ := own_slice ho1; have q1 := cell_be hb1 zh; have q2 := cell_be hb1 z0; have q3 := cell_be hb1 z1; have p1 : w1.frozen? ⟨E.gh, i, none⟩ = false := ((bcell hb1).2 _ _ g1).trans fh; have p2 : w1.frozen? ⟨E.gs, i * 2, none⟩ = false := ((bcell hb1).2 _ _ g2).trans fs; have p3 : w1.frozen? ⟨E.gs, i * 2 + 1, none⟩ = false := ((bcell hb1).2 _ _ g2).trans fs1))
  go_wp2_with fail
  go_ret
  have hb2 := HA.out.drew.trans (hb1.mono HA.out.size)
  have hB := HB.out
  have hle : w0.heap.size ≤ V.heap.size := Nat.le_trans hB.size HA.out.size
  refine ⟨rfl, wk_set (HW.out.below hb2) HI.out s (row_base ho1 hle), ?_, ?_⟩
  · exact (((hB.trans (hb2.mono hB.size)).setCell (p := ⟨E.gh, i, none⟩) HW.out.loh _).setCell (p := ⟨E.gs, i * 2, none⟩) HW.out.los _).setCell (p := ⟨E.gs, i * 2 + 1, none⟩) HW.out.los _
  · refine (Fr.of_below hb2).trans ⟨by simp, fun k o hk h1 h2 => ?_⟩
    rw [Below.heap_setCell _ ⟨E.gs, i * 2 + 1, none⟩ _ k h1, Below.heap_setCell _ ⟨E.gs, i * 2, none⟩ _ k h1, Below.heap_setCell _ ⟨E.gh, i, none⟩ _ k h2]
    exact hk
theorem reach_calls (hW : WkI E w0.heap.size W sh has) (hb : Below w0.heap.size w0 W) (q : Int) (h0 : 0 ≤ q) (s : Shp) (hs : Kd.C (Kd.int .i64) W S0 s.1.length s.1) (hsc : s.1.length ≤ sc) (hl : s.1.length ≤ 100000) :
    Calls Tryd.prog 163 #[.pointer (some ⟨E.G, 0, none⟩), .int .i64 q, .agg #[.slice S0 s.1.length sc, .int .i64 s.2]] W (RePost E w0 W (reachS E.n sh has q s)) := by
  obtain ⟨i, rfl⟩ := Int.eq_ofNat_of_zero_le h0
  unfold reachS
  rw [Int.toNat_natCast]
  by_cases hq : (E.n : Int) ≤ (i : Int)
  · rw [if_pos hq]
    exact reach_end hW hb i s hq
  · rw [if_neg hq]
    have hi : i < E.n := by omega
    by_cases hh : has.getD i false = false
    · rw [if_pos hh]
      exact reach_new hW hb i s hi hh hs hsc hl
    · have hh : has.getD i false = true := by simpa using hh
      rw [if_neg (by rw [hh]; simp)]
      by_cases h1 : (sh.getD i ([], 0)).1.length = s.1.length
      · rw [if_neg (fun h => h h1)]
        by_cases h2 : (sh.getD i ([], 0)).1 = s.1
        · rw [if_neg (fun h => h h2)]
          by_cases h3 : (sh.getD i ([], 0)).2 = s.2
          · rw [if_neg (fun h => h h3)]
            exact reach_same hW hb i s hi hh hs hsc hl h2 h3
          · rw [if_pos h3]
            exact reach_held hW hb i s hi hh hs hsc hl h2 h3
        · rw [if_pos h2]
          exact reach_typ hW hb i s hi hh hs hsc hl h1 h2
      · rw [if_pos h1]
        exact reach_len hW hb i s hi hh hs hsc hl h1
end
end Go.Proofs.YtkphijabhoppnaaDoor
