/- A place is let have a shape (brazier/verify.walk.reach). -/
import Derived.Test.YtkphijabhoppnaaDoorAVh
namespace Go.Proofs.YtkphijabhoppnaaDoor
open Go.RowKit Go.Proofs.YtkphijabhoppnaaDoorW.PrintWords
set_option linter.unusedSimpArgs false
set_option linter.unusedVariables false
structure Env where
  G : Nat
  gb : Nat
  gs : Nat
  gh : Nat
  n : Nat
  A0 : Option Addr
  c0 : Nat
  A1 : Option Addr
  c1 : Nat
  A2 : Option Addr
  c2 : Nat
  B0 : Option Addr
  d0 : Nat
  B2 : Option Addr
  d2 : Nat
  B4 : Option Addr
  d4 : Nat
  p : Pg
  m : Meth
  begins : List Bool
abbrev obW (E : Env) : Obj := .cells #[.slice E.A0 E.p.pool.length E.c0, .slice E.A1 E.p.classes.length E.c1, .slice E.A2 E.p.methods.length E.c2, .slice E.B0 E.m.f0.length E.d0, .int .i64 E.m.f1, .slice E.B2 E.m.f2.length E.d2, .int .i64 E.m.f3, .slice E.B4 E.m.f4.length E.d4, .slice (some ⟨E.gb, 0, none⟩) E.n E.n, .slice (some ⟨E.gs, 0, none⟩) E.n E.n, .slice (some ⟨E.gh, 0, none⟩) E.n E.n] 134
def bools4 (l : List Bool) : Obj := .cells (l.map Value.bool).toArray 4
def Shps (base : Nat) (W : World) (n : Nat) (cs : List Value) (sh : List Shp) : Prop :=
  cs.length = 2 * n ∧ ∀ i, i < n → ∃ v, cs[2 * i]? = some v ∧ cs[2 * i + 1]? = some (.int .i64 (sh.getD i ([], 0)).2) ∧ W.ownsRow base 3 1 v (sh.getD i ([], 0)).1.length (nums .i64 (sh.getD i ([], 0)).1)
structure WkI (E : Env) (base : Nat) (W : World) (sh : List Shp) (has : List Bool) : Prop where
  blk : W.heap[E.G]? = some (obW E)
  bb : W.heap[E.gb]? = some (bools4 E.begins)
  hh : W.heap[E.gh]? = some (bools4 has)
  ss : ∃ cs : List Value, W.heap[E.gs]? = some (.cells cs.toArray 81 (0, 0)) ∧ Shps base W E.n cs sh
  lb : E.begins.length = E.n
  lh : has.length = E.n
  ls : sh.length = E.n
  hn : E.n ≤ 4096
  loG : base ≤ E.G
  los : base ≤ E.gs
  loh : base ≤ E.gh
  ne : E.gb ≠ E.gh
theorem Shps.move {base n : Nat} {W W' : World} {cs : List Value} {sh : List Shp} (h : Shps base W n cs sh) (hm : ∀ (k : Nat) (cells : Array Value), W.heap[k]? = some (Obj.cells cells 3 (0, 0)) → W'.heap[k]? = W.heap[k]?) : Shps base W' n cs sh :=
  ⟨h.1, fun i hi => by
    obtain ⟨v, h1, h2, h3⟩ := h.2 i hi
    refine ⟨v, h1, h2, own_move h3 fun k hk => ?_⟩
    obtain ⟨cells, hc⟩ := own_typed h3 k hk
    exact hm k cells hc⟩
theorem WkI.below {E : Env} {base : Nat} {W W' : World} {sh : List Shp} {has : List Bool} (h : WkI E base W sh has) (hb : Below W.heap.size W W') : WkI E base W' sh has := by
  obtain ⟨cs, h1, h2⟩ := h.ss
  exact ⟨row_kept hb h.blk, row_kept hb h.bb, row_kept hb h.hh, ⟨cs, row_kept hb h1, h2.move fun k cells hc => (row_kept hb hc).trans hc.symm⟩, h.lb, h.lh, h.ls, h.hn, h.loG, h.los, h.loh, h.ne⟩
def Fr (gs gh : Nat) (W W' : World) : Prop := W.heap.size ≤ W'.heap.size ∧ ∀ k o, W.heap[k]? = some o → k ≠ gs → k ≠ gh → W'.heap[k]? = some o
theorem Fr.of_below {gs gh : Nat} {W W' : World} (h : Below W.heap.size W W') : Fr gs gh W W' := ⟨h.size, fun k o hk _ _ => row_kept h hk⟩
theorem Fr.trans {gs gh : Nat} {A B C : World} (h : Fr gs gh A B) (k : Fr gs gh B C) : Fr gs gh A C := ⟨Nat.le_trans h.1 k.1, fun i o hi h1 h2 => k.2 i o (h.2 i o hi h1 h2) h1 h2⟩
def reachS (n : Nat) (sh : List Shp) (has : List Bool) (q : Int) (s : Shp) : (List Shp × List Bool) × Int :=
  if (n : Int) ≤ q then ((sh, has), 26)
  else if has.getD q.toNat false = false then ((sh.set q.toNat s, has.set q.toNat true), 0)
  else if (sh.getD q.toNat ([], 0)).1.length ≠ s.1.length then ((sh, has), 22)
  else if (sh.getD q.toNat ([], 0)).1 ≠ s.1 then ((sh, has), 21)
  else if (sh.getD q.toNat ([], 0)).2 ≠ s.2 then ((sh, has), 25)
  else ((sh, has), 0)
def RePost (E : Env) (w0 W : World) (r : (List Shp × List Bool) × Int) (e : Ending) (w' : World) : Prop :=
  e = .returned (.int .i64 r.2) ∧ WkI E w0.heap.size w' r.1.1 r.1.2 ∧ Below w0.heap.size w0 w' ∧ Fr E.gs E.gh W w'
theorem cells11 {W : World} {g : Nat} {x0 x1 x2 x3 x4 x5 x6 x7 x8 x9 x10 : Value} {q : TypeId} {fr : Nat × Nat} (h : W.heap[g]? = some (Obj.cells #[x0, x1, x2, x3, x4, x5, x6, x7, x8, x9, x10] q fr)) :
    W.cell? ⟨g, 8, none⟩ = some x8 ∧ W.cell? ⟨g, 9, none⟩ = some x9 ∧ W.cell? ⟨g, 10, none⟩ = some x10 :=
  ⟨(cell_of_row _ _ 8 _ _ _ h).trans rfl, (cell_of_row _ _ 9 _ _ _ h).trans rfl, (cell_of_row _ _ 10 _ _ _ h).trans rfl⟩
theorem cell_bools {W : World} {g : Nat} {l : List Bool} (h : W.heap[g]? = some (bools4 l)) (i : Nat) (hi : i < l.length) : W.cell? ⟨g, i, none⟩ = some (.bool (l.getD i false)) := by
  rw [cell_of_row _ _ i _ _ _ h]
  simp [hi]
section
variable {E : Env} {w0 W : World} {sh : List Shp} {has : List Bool} {S0 : Option Addr} {sc : Nat}
set_option maxRecDepth 100000 in
theorem reach_end (hW : WkI E w0.heap.size W sh has) (hb : Below w0.heap.size w0 W) (q : Int) (s : Shp) (h0 : (E.n : Int) ≤ q) :
    Calls Tryd.prog 163 #[.pointer (some ⟨E.G, 0, none⟩), .int .i64 q, .agg #[.slice S0 s.1.length sc, .int .i64 s.2]] W (RePost E w0 W ((sh, has), 26)) := by
  obtain ⟨x8, x9, x10⟩ := cells11 hW.blk
  have hG := block_lt_of_cell x8
  have HW := Lib.hid hW
  have HB := Lib.hid hb
  have ht : decide ((E.n : Int) ≤ q) = true := by simp; omega
  clear hW hb
  go_enter Tryd.func163, Tryd.ntmps163
  go_wp2_with fail
  go_ret
  have hA : Below W.heap.size W (W.alloc (.cells #[.slice S0 s.1.length sc, .int .i64 s.2] 81)) := (Below.refl _ _).alloc (Nat.le_refl _) _
  exact ⟨rfl, HW.out.below hA, HB.out.alloc HB.out.size _, Fr.of_below hA⟩
set_option maxRecDepth 100000 in
set_option maxHeartbeats 800000 in
theorem reach_len (hW : WkI E w0.heap.size W sh has) (hb : Below w0.heap.size w0 W) (i : Nat) (s : Shp) (hi : i < E.n) (hhas : has.getD i false = true) (hs : Kd.C (Kd.int .i64) W S0 s.1.length s.1) (hsc : s.1.length ≤ sc) (hl : s.1.length ≤ 100000) (hx : (sh.getD i ([], 0)).1.length ≠ s.1.length) :
    Calls Tryd.prog 163 #[.pointer (some ⟨E.G, 0, none⟩), .int .i64 i, .agg #[.slice S0 s.1.length sc, .int .i64 s.2]] W (RePost E w0 W ((sh, has), 22)) := by
  obtain ⟨x8, x9, x10⟩ := cells11 hW.blk
  have xh := cell_bools hW.hh i (by rw [hW.lh]; exact hi)
  rw [hhas] at xh
  obtain ⟨cs, hcs, hsl, hsh⟩ := hW.ss
  obtain ⟨v, hv, hv2, hown⟩ := hsh i hi
  have hn := hW.hn
  obtain ⟨⟨o, oh⟩, hos⟩ : ∃ z, sh.getD i ([], 0) = z := ⟨_, rfl⟩
  rw [hos] at hv2 hown hx
  dsimp only at hv2 hown hx
  obtain ⟨O, oc, rfl⟩ := own_slice hown
  have hoc : o.length ≤ oc := by
    rcases hown.2 with ⟨he, hn0⟩ | ⟨g, cap, cur, he, -, -, h3, -, -⟩
    · injection he with _ _ e3; omega
    · injection he with _ _ e3; omega
  have y0 : W.cell? ⟨E.gs, i * 2, none⟩ = some (.slice O o.length oc) := by
    rw [cell_of_row _ _ _ _ _ _ hcs]
    simpa [Nat.mul_comm] using hv
  have y1 : W.cell? ⟨E.gs, i * 2 + 1, none⟩ = some (.int .i64 oh) := by
    rw [cell_of_row _ _ _ _ _ _ hcs]
    simpa [Nat.mul_comm] using hv2
  have hG := block_lt_of_cell x8
  have hgs := block_lt_of_cell y0
  have hgh := block_lt_of_cell xh
  have HW := Lib.hid hW
  have HB := Lib.hid hb
  have HS := Lib.hid hs
  have HO := Lib.hid (RI_own hown)
  have ht : decide ((E.n : Int) ≤ (i : Int)) = false := by simp; omega
  clear hW hb hs hcs hsl hsh hv hv2 hown hos hhas
  have h1 : ((o.length : Int) != (s.1.length : Int)) = true := by rw [bne_iff_ne]; omega
  clear hx
  go_enter Tryd.func163, Tryd.ntmps163
  go_wp2_with fail
  have hA : Below W.heap.size W ((W.alloc (.cells #[.slice S0 s.1.length sc, .int .i64 s.2] 81)).alloc (.cells #[.slice O o.length oc, .int .i64 oh] 81)) := ((Below.refl _ _).alloc (Nat.le_refl _) _).alloc (by simp) _
  have HC := Lib.hid hA
  go_ret
  exact ⟨rfl, HW.out.below HC.out, HB.out.trans (HC.out.mono HB.out.size), Fr.of_below HC.out⟩
set_option maxRecDepth 100000 in
set_option maxHeartbeats 800000 in
theorem reach_typ (hW : WkI E w0.heap.size W sh has) (hb : Below w0.heap.size w0 W) (i : Nat) (s : Shp) (hi : i < E.n) (hhas : has.getD i false = true) (hs : Kd.C (Kd.int .i64) W S0 s.1.length s.1) (hsc : s.1.length ≤ sc) (hl : s.1.length ≤ 100000) (hx : (sh.getD i ([], 0)).1.length = s.1.length) (hy : (sh.getD i ([], 0)).1 ≠ s.1) :
    Calls Tryd.prog 163 #[.pointer (some ⟨E.G, 0, none⟩), .int .i64 i, .agg #[.slice S0 s.1.length sc, .int .i64 s.2]] W (RePost E w0 W ((sh, has), 21)) := by
  obtain ⟨x8, x9, x10⟩ := cells11 hW.blk
  have xh := cell_bools hW.hh i (by rw [hW.lh]; exact hi)
  rw [hhas] at xh
  obtain ⟨cs, hcs, hsl, hsh⟩ := hW.ss
  obtain ⟨v, hv, hv2, hown⟩ := hsh i hi
  have hn := hW.hn
  obtain ⟨⟨o, oh⟩, hos⟩ : ∃ z, sh.getD i ([], 0) = z := ⟨_, rfl⟩
  rw [hos] at hv2 hown hx hy
  dsimp only at hv2 hown hx hy
  obtain ⟨O, oc, rfl⟩ := own_slice hown
  have hoc : o.length ≤ oc := by
    rcases hown.2 with ⟨he, hn0⟩ | ⟨g, cap, cur, he, -, -, h3, -, -⟩
    · injection he with _ _ e3; omega
    · injection he with _ _ e3; omega
  have y0 : W.cell? ⟨E.gs, i * 2, none⟩ = some (.slice O o.length oc) := by
    rw [cell_of_row _ _ _ _ _ _ hcs]
    simpa [Nat.mul_comm] using hv
  have y1 : W.cell? ⟨E.gs, i * 2 + 1, none⟩ = some (.int .i64 oh) := by
    rw [cell_of_row _ _ _ _ _ _ hcs]
    simpa [Nat.mul_comm] using hv2
  have hG := block_lt_of_cell x8
  have hgs := block_lt_of_cell y0
  have hgh := block_lt_of_cell xh
  have HW := Lib.hid hW
  have HB := Lib.hid hb
  have HS := Lib.hid hs
  have HO := Lib.hid (RI_own hown)
  have ht : decide ((E.n : Int) ≤ (i : Int)) = false := by simp; omega
  clear hW hb hs hcs hsl hsh hv hv2 hown hos hhas
  have h1 : ((o.length : Int) != (s.1.length : Int)) = false := by rw [bne_eq_false_iff_eq]; omega
  have hEq : ∀ W', Below W.heap.size W W' → Calls Tryd.prog 112 #[.slice O o.length oc, .slice S0 s.1.length sc] W' fun e w' => e = .returned (.bool false) ∧ Below W'.heap.size W' w' := fun W' h => by
    have := equal_calls (c := oc) (d := sc) (Kd.C_below HO.out h) hoc (Kd.C_below HS.out h) hsc (by omega)
    rw [decide_eq_false hy] at this
    exact this
  have HEQ := Lib.hid hEq
  clear hx hy hEq
  go_enter Tryd.func163, Tryd.ntmps163
  go_wp2_with fail
  have hA : Below W.heap.size W ((W.alloc (.cells #[.slice S0 s.1.length sc, .int .i64 s.2] 81)).alloc (.cells #[.slice O o.length oc, .int .i64 oh] 81)) := ((Below.refl _ _).alloc (Nat.le_refl _) _).alloc (by simp) _
  refine (HEQ.out _ hA).mono ?_
  rintro e w2 ⟨rfl, hb2⟩
  have r1 := row_kept hb2 (row_alloc (heap_alloc_new W (.cells #[.slice S0 s.1.length sc, .int .i64 s.2] 81)) (.cells #[.slice O o.length oc, .int .i64 oh] 81))
  have r2 := row_kept hb2 (heap_alloc_new (W.alloc (.cells #[.slice S0 s.1.length sc, .int .i64 s.2] 81)) (.cells #[.slice O o.length oc, .int .i64 oh] 81))
  have e1 : (W.alloc (.cells #[.slice S0 s.1.length sc, .int .i64 s.2] 81)).heap.size = W.heap.size + 1 := by simp
  rw [e1] at r2
  obtain ⟨k0, k1⟩ := cells2V r1
  obtain ⟨k2, k3⟩ := cells2V r2
  have HC := Lib.hid (hA.trans (hb2.mono hA.size))
  clear hA hb2 r1 r2 e1
  go_wp2_with fail
  go_ret
  exact ⟨rfl, HW.out.below HC.out, HB.out.trans (HC.out.mono HB.out.size), Fr.of_below HC.out⟩
set_option maxRecDepth 100000 in
set_option maxHeartbeats 800000 in
theorem reach_held (hW : WkI E w0.heap.size W sh has) (hb : Below w0.heap.size w0 W) (i : Nat) (s : Shp) (hi : i < E.n) (hhas : has.getD i false = true) (hs : Kd.C (Kd.int .i64) W S0 s.1.length s.1) (hsc : s.1.length ≤ sc) (hl : s.1.length ≤ 100000) (hy : (sh.getD i ([], 0)).1 = s.1) (hz : (sh.getD i ([], 0)).2 ≠ s.2) :
    Calls Tryd.prog 163 #[.pointer (some ⟨E.G, 0, none⟩), .int .i64 i, .agg #[.slice S0 s.1.length sc, .int .i64 s.2]] W (RePost E w0 W ((sh, has), 25)) := by
  obtain ⟨x8, x9, x10⟩ := cells11 hW.blk
  have xh := cell_bools hW.hh i (by rw [hW.lh]; exact hi)
  rw [hhas] at xh
  obtain ⟨cs, hcs, hsl, hsh⟩ := hW.ss
  obtain ⟨v, hv, hv2, hown⟩ := hsh i hi
  have hn := hW.hn
  obtain ⟨⟨o, oh⟩, hos⟩ : ∃ z, sh.getD i ([], 0) = z := ⟨_, rfl⟩
  rw [hos] at hv2 hown hy hz
  dsimp only at hv2 hown hy hz
  obtain ⟨O, oc, rfl⟩ := own_slice hown
  have hoc : o.length ≤ oc := by
    rcases hown.2 with ⟨he, hn0⟩ | ⟨g, cap, cur, he, -, -, h3, -, -⟩
    · injection he with _ _ e3; omega
    · injection he with _ _ e3; omega
  have y0 : W.cell? ⟨E.gs, i * 2, none⟩ = some (.slice O o.length oc) := by
    rw [cell_of_row _ _ _ _ _ _ hcs]
    simpa [Nat.mul_comm] using hv
  have y1 : W.cell? ⟨E.gs, i * 2 + 1, none⟩ = some (.int .i64 oh) := by
    rw [cell_of_row _ _ _ _ _ _ hcs]
    simpa [Nat.mul_comm] using hv2
  have hG := block_lt_of_cell x8
  have hgs := block_lt_of_cell y0
  have hgh := block_lt_of_cell xh
  have HW := Lib.hid hW
  have HB := Lib.hid hb
  have HS := Lib.hid hs
  have HO := Lib.hid (RI_own hown)
  have ht : decide ((E.n : Int) ≤ (i : Int)) = false := by simp; omega
  clear hW hb hs hcs hsl hsh hv hv2 hown hos hhas
  have hx : o.length = s.1.length := by rw [hy]
  have h1 : ((o.length : Int) != (s.1.length : Int)) = false := by rw [bne_eq_false_iff_eq]; omega
  have hEq : ∀ W', Below W.heap.size W W' → Calls Tryd.prog 112 #[.slice O o.length oc, .slice S0 s.1.length sc] W' fun e w' => e = .returned (.bool true) ∧ Below W'.heap.size W' w' := fun W' h => by
    have := equal_calls (c := oc) (d := sc) (Kd.C_below HO.out h) hoc (Kd.C_below HS.out h) hsc (by omega)
    rw [decide_eq_true hy] at this
    exact this
  have HEQ := Lib.hid hEq
  have h2 : (oh != s.2) = true := by rw [bne_iff_ne]; exact hz
  clear hx hy hz hEq
  go_enter Tryd.func163, Tryd.ntmps163
  go_wp2_with fail
  have hA : Below W.heap.size W ((W.alloc (.cells #[.slice S0 s.1.length sc, .int .i64 s.2] 81)).alloc (.cells #[.slice O o.length oc, .int .i64 oh] 81)) := ((Below.refl _ _).alloc (Nat.le_refl _) _).alloc (by simp) _
  refine (HEQ.out _ hA).mono ?_
  rintro e w2 ⟨rfl, hb2⟩
  have r1 := row_kept hb2 (row_alloc (heap_alloc_new W (.cells #[.slice S0 s.1.length sc, .int .i64 s.2] 81)) (.cells #[.slice O o.length oc, .int .i64 oh] 81))
  have r2 := row_kept hb2 (heap_alloc_new (W.alloc (.cells #[.slice S0 s.1.length sc, .int .i64 s.2] 81)) (.cells #[.slice O o.length oc, .int .i64 oh] 81))
  have e1 : (W.alloc (.cells #[.slice S0 s.1.length sc, .int .i64 s.2] 81)).heap.size = W.heap.size + 1 := by simp
  rw [e1] at r2
  obtain ⟨k0, k1⟩ := cells2V r1
  obtain ⟨k2, k3⟩ := cells2V r2
  have HC := Lib.hid (hA.trans (hb2.mono hA.size))
  clear hA hb2 r1 r2 e1
  go_wp2_with fail
  go_ret
  exact ⟨rfl, HW.out.below HC.out, HB.out.trans (HC.out.mono HB.out.size), Fr.of_below HC.out⟩
set_option maxRecDepth 100000 in
set_option maxHeartbeats 800000 in
theorem reach_same (hW : WkI E w0.heap.size W sh has) (hb : Below w0.heap.size w0 W) (i : Nat) (s : Shp) (hi : i < E.n) (hhas : has.getD i false = true) (hs : Kd.C (Kd.int .i64) W S0 s.1.length s.1) (hsc : s.1.length ≤ sc) (hl : s.1.length ≤ 100000) (hy : (sh.getD i ([], 0)).1 = s.1) (hz : (sh.getD i ([], 0)).2 = s.2) :
    Calls Tryd.prog 163 #[.pointer (some ⟨E.G, 0, none⟩), .int .i64 i, .agg #[.slice S0 s.1.length sc, .int .i64 s.2]] W (RePost E w0 W ((sh, has), 0)) := by
  obtain ⟨x8, x9, x10⟩ := cells11 hW.blk
  have xh := cell_bools hW.hh i (by rw [hW.lh]; exact hi)
  rw [hhas] at xh
  obtain ⟨cs, hcs, hsl, hsh⟩ := hW.ss
  obtain ⟨v, hv, hv2, hown⟩ := hsh i hi
  have hn := hW.hn
  obtain ⟨⟨o, oh⟩, hos⟩ : ∃ z, sh.getD i ([], 0) = z := ⟨_, rfl⟩
  rw [hos] at hv2 hown hy hz
  dsimp only at hv2 hown hy hz
  obtain ⟨O, oc, rfl⟩ := own_slice hown
  have hoc : o.length ≤ oc := by
    rcases hown.2 with ⟨he, hn0⟩ | ⟨g, cap, cur, he, -, -, h3, -, -⟩
    · injection he with _ _ e3; omega
    · injection he with _ _ e3; omega
  have y0 : W.cell? ⟨E.gs, i * 2, none⟩ = some (.slice O o.length oc) := by
    rw [cell_of_row _ _ _ _ _ _ hcs]
    simpa [Nat.mul_comm] using hv
  have y1 : W.cell? ⟨E.gs, i * 2 + 1, none⟩ = some (.int .i64 oh) := by
    rw [cell_of_row _ _ _ _ _ _ hcs]
    simpa [Nat.mul_comm] using hv2
  have hG := block_lt_of_cell x8
  have hgs := block_lt_of_cell y0
  have hgh := block_lt_of_cell xh
  have HW := Lib.hid hW
  have HB := Lib.hid hb
  have HS := Lib.hid hs
  have HO := Lib.hid (RI_own hown)
  have ht : decide ((E.n : Int) ≤ (i : Int)) = false := by simp; omega
  clear hW hb hs hcs hsl hsh hv hv2 hown hos hhas
  have hx : o.length = s.1.length := by rw [hy]
  have h1 : ((o.length : Int) != (s.1.length : Int)) = false := by rw [bne_eq_false_iff_eq]; omega
  have hEq : ∀ W', Below W.heap.size W W' → Calls Tryd.prog 112 #[.slice O o.length oc, .slice S0 s.1.length sc] W' fun e w' => e = .returned (.bool true) ∧ Below W'.heap.size W' w' := fun W' h => by
    have := equal_calls (c := oc) (d := sc) (Kd.C_below HO.out h) hoc (Kd.C_below HS.out h) hsc (by omega)
    rw [decide_eq_true hy] at this
    exact this
  have HEQ := Lib.hid hEq
  have h2 : (oh != s.2) = false := by rw [bne_eq_false_iff_eq]; exact hz
  clear hx hy hz hEq
  go_enter Tryd.func163, Tryd.ntmps163
  go_wp2_with fail
  have hA : Below W.heap.size W ((W.alloc (.cells #[.slice S0 s.1.length sc, .int .i64 s.2] 81)).alloc (.cells #[.slice O o.length oc, .int .i64 oh] 81)) := ((Below.refl _ _).alloc (Nat.le_refl _) _).alloc (by simp) _
  refine (HEQ.out _ hA).mono ?_
  rintro e w2 ⟨rfl, hb2⟩
  have r1 := row_kept hb2 (row_alloc (heap_alloc_new W (.cells #[.slice S0 s.1.length sc, .int .i64 s.2] 81)) (.cells #[.slice O o.length oc, .int .i64 oh] 81))
  have r2 := row_kept hb2 (heap_alloc_new (W.alloc (.cells #[.slice S0 s.1.length sc, .int .i64 s.2] 81)) (.cells #[.slice O o.length oc, .int .i64 oh] 81))
  have e1 : (W.alloc (.cells #[.slice S0 s.1.length sc, .int .i64 s.2] 81)).heap.size = W.heap.size + 1 := by simp
  rw [e1] at r2
  obtain ⟨k0, k1⟩ := cells2V r1
  obtain ⟨k2, k3⟩ := cells2V r2
  have HC := Lib.hid (hA.trans (hb2.mono hA.size))
  clear hA hb2 r1 r2 e1
  go_wp2_with fail
  go_ret
  exact ⟨rfl, HW.out.below HC.out, HB.out.trans (HC.out.mono HB.out.size), Fr.of_below HC.out⟩
end
end Go.Proofs.YtkphijabhoppnaaDoor
