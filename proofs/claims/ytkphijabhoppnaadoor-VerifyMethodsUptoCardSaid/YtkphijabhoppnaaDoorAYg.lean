/- The reference's state, shapes by place; a place is let have a shape (brazierref15.State.reach). -/
import Derived.Test.YtkphijabhoppnaaDoorAVm
import Derived.Deep.RegionHeld3
import Derived.BigQuiet
import Derived.Deep.LoopGhost
namespace Go.Proofs.YtkphijabhoppnaaDoor
open Go.RowKit Go.Proofs.YtkphijabhoppnaaDoorW.PrintWords
set_option linter.unusedSimpArgs false
set_option linter.unusedVariables false
structure Loc where
  G : Nat
  gs : Nat
  gh : Nat
  gg : Nat
abbrev obT (L : Loc) (n : Nat) : Obj := .cells #[.slice (some ⟨L.gs, 0, none⟩) n n, .slice (some ⟨L.gh, 0, none⟩) n n, .slice (some ⟨L.gg, 0, none⟩) n n] 136
abbrev obR (S0 : Option Addr) (n sc : Nat) (h : Int) : Obj := .cells #[.slice S0 n sc, .int .i64 h] 82
structure StI (L : Loc) (n base : Nat) (W : World) (sh : List Shp) (has gone : List Bool) : Prop where
  blk : W.heap[L.G]? = some (obT L n)
  hh : W.heap[L.gh]? = some (bools4 has)
  hg : W.heap[L.gg]? = some (bools4 gone)
  ss : ∃ cs : List Value, W.heap[L.gs]? = some (.cells cs.toArray 82 (0, 0)) ∧ Shps base W n cs sh
  lh : has.length = n
  lg : gone.length = n
  ls : sh.length = n
  hn : n ≤ 4096
  loG : base ≤ L.G
  los : base ≤ L.gs
  loh : base ≤ L.gh
  log : base ≤ L.gg
  ne : L.gg ≠ L.gh
theorem StI.below {L : Loc} {n base : Nat} {W W' : World} {sh : List Shp} {has gone : List Bool} (h : StI L n base W sh has gone) (hb : Below W.heap.size W W') : StI L n base W' sh has gone := by
  obtain ⟨cs, h1, h2⟩ := h.ss
  exact ⟨row_kept hb h.blk, row_kept hb h.hh, row_kept hb h.hg, ⟨cs, row_kept hb h1, h2.move fun k cells hc => (row_kept hb hc).trans hc.symm⟩, h.lh, h.lg, h.ls, h.hn, h.loG, h.los, h.loh, h.log, h.ne⟩
theorem StI.nes {L : Loc} {n base : Nat} {W : World} {sh : List Shp} {has gone : List Bool} (h : StI L n base W sh has gone) : L.G ≠ L.gh ∧ L.G ≠ L.gs ∧ L.gh ≠ L.gs ∧ L.gg ≠ L.gs ∧ L.G ≠ L.gg := by
  obtain ⟨cs, hcs, -⟩ := h.ss
  refine ⟨fun e => ?_, fun e => ?_, fun e => ?_, fun e => ?_, fun e => ?_⟩
  · have h1 := h.blk; have h2 := h.hh; rw [e, h2] at h1; simp [bools4] at h1
  · have h1 := h.blk; rw [e, hcs] at h1; simp at h1
  · have h1 := h.hh; rw [e, hcs] at h1; simp [bools4] at h1
  · have h1 := h.hg; rw [e, hcs] at h1; simp [bools4] at h1
  · have h1 := h.blk; have h2 := h.hg; rw [e, h2] at h1; simp [bools4] at h1
theorem st_set {L : Loc} {n base : Nat} {W : World} {sh : List Shp} {has gone : List Bool} (h : StI L n base W sh has gone) {i : Nat} (hi : i < n) (s : Shp) {v : Value} (ho : W.ownsRow base 3 1 v s.1.length (nums .i64 s.1)) :
    StI L n base (((W.setCell ⟨L.gh, i, none⟩ (.bool true)).setCell ⟨L.gs, i * 2, none⟩ v).setCell ⟨L.gs, i * 2 + 1, none⟩ (.int .i64 s.2)) (sh.set i s) (has.set i true) gone := by
  obtain ⟨n1, n2, n3, n4, n5⟩ := h.nes
  obtain ⟨cs, hcs, hsl, hsh⟩ := h.ss
  obtain ⟨A, c, hv⟩ := own_slice ho
  have v1 : v.oneCell' = true := by rw [hv]; rfl
  have far : ∀ k, k ≠ L.gs → k ≠ L.gh → (((W.setCell ⟨L.gh, i, none⟩ (.bool true)).setCell ⟨L.gs, i * 2, none⟩ v).setCell ⟨L.gs, i * 2 + 1, none⟩ (.int .i64 s.2)).heap[k]? = W.heap[k]? := fun k h1 h2 => by
    rw [Below.heap_setCell _ ⟨L.gs, i * 2 + 1, none⟩ _ k h1, Below.heap_setCell _ ⟨L.gs, i * 2, none⟩ _ k h1, Below.heap_setCell _ ⟨L.gh, i, none⟩ _ k h2]
  have hlh := h.lh
  have c1 := set_list (l := has.map Value.bool) h.hh i (.bool true) rfl (by rw [List.length_map]; omega)
  have c2 : (W.setCell ⟨L.gh, i, none⟩ (.bool true)).heap[L.gs]? = some (.cells cs.toArray 82 (0, 0)) := (Below.heap_setCell _ ⟨L.gh, i, none⟩ _ L.gs (Ne.symm n3)).trans hcs
  have c3 := set_list c2 (i * 2) v v1 (by omega)
  have c4 := set_list c3 (i * 2 + 1) (.int .i64 s.2) rfl (by rw [List.length_set]; omega)
  refine ⟨(far _ n2 n1).trans h.blk, ?_, (far _ n4 h.ne).trans h.hg, ⟨_, c4, by rw [List.length_set, List.length_set]; exact hsl, fun j hj => ?_⟩, by rw [List.length_set]; exact h.lh, h.lg, by rw [List.length_set]; exact h.ls, h.hn, h.loG, h.los, h.loh, h.log, h.ne⟩
  · rw [Below.heap_setCell _ ⟨L.gs, i * 2 + 1, none⟩ _ L.gh n3, Below.heap_setCell _ ⟨L.gs, i * 2, none⟩ _ L.gh n3, c1]
    unfold bools4
    rw [List.map_set]
  · have mv : ∀ {u : Value} {l : List Int}, W.ownsRow base 3 1 u l.length (nums .i64 l) → (((W.setCell ⟨L.gh, i, none⟩ (.bool true)).setCell ⟨L.gs, i * 2, none⟩ v).setCell ⟨L.gs, i * 2 + 1, none⟩ (.int .i64 s.2)).ownsRow base 3 1 u l.length (nums .i64 l) := fun hu => own_move hu fun k hk => by
      obtain ⟨cells, hc⟩ := own_typed hu k hk
      refine far k (fun e => ?_) (fun e => ?_)
      · rw [e, hcs] at hc; simp at hc
      · have h2 := h.hh; rw [e, h2] at hc; simp [bools4] at hc
    have hls := h.ls
    by_cases hij : i = j
    · subst hij
      refine ⟨v, ?_, ?_, ?_⟩
      · rw [List.getElem?_set_ne (by omega), show 2 * i = i * 2 by omega, List.getElem?_set_self (by omega)]
      · rw [show 2 * i + 1 = i * 2 + 1 by omega, List.getElem?_set_self (by rw [List.length_set]; omega)]
        rw [List.getD_eq_getElem?_getD, List.getElem?_set_self (by omega)]
        rfl
      · have e : (sh.set i s).getD i ([], 0) = s := by rw [List.getD_eq_getElem?_getD, List.getElem?_set_self (by omega)]; rfl
        rw [e]
        exact mv ho
    · obtain ⟨u, h1, h2, h3⟩ := hsh j hj
      have e : (sh.set i s).getD j ([], 0) = sh.getD j ([], 0) := by rw [List.getD_eq_getElem?_getD, List.getElem?_set_ne hij, ← List.getD_eq_getElem?_getD]
      rw [e]
      refine ⟨u, ?_, ?_, mv h3⟩
      · rw [List.getElem?_set_ne (by omega), List.getElem?_set_ne (by omega)]; exact h1
      · rw [List.getElem?_set_ne (by omega), List.getElem?_set_ne (by omega)]; exact h2
theorem st_bool {L : Loc} {n base : Nat} {W : World} {sh : List Shp} {has gone : List Bool} (h : StI L n base W sh has gone) {i : Nat} (hi : i < n) :
    StI L n base (W.setCell ⟨L.gh, i, none⟩ (.bool true)) sh (has.set i true) gone ∧ StI L n base (W.setCell ⟨L.gg, i, none⟩ (.bool true)) sh has (gone.set i true) := by
  obtain ⟨n1, n2, n3, n4, n5⟩ := h.nes
  obtain ⟨cs, hcs, hsh⟩ := h.ss
  have hlh := h.lh
  have hlg := h.lg
  have f1 : ∀ k, k ≠ L.gh → (W.setCell ⟨L.gh, i, none⟩ (.bool true)).heap[k]? = W.heap[k]? := fun k hk => Below.heap_setCell _ ⟨L.gh, i, none⟩ _ k hk
  have f2 : ∀ k, k ≠ L.gg → (W.setCell ⟨L.gg, i, none⟩ (.bool true)).heap[k]? = W.heap[k]? := fun k hk => Below.heap_setCell _ ⟨L.gg, i, none⟩ _ k hk
  constructor
  · refine ⟨(f1 _ n1).trans h.blk, ?_, (f1 _ h.ne).trans h.hg, ⟨cs, (f1 _ (Ne.symm n3)).trans hcs, hsh.move fun k cells hc => f1 k fun e => ?_⟩, by rw [List.length_set]; exact h.lh, h.lg, h.ls, h.hn, h.loG, h.los, h.loh, h.log, h.ne⟩
    · have c1 := set_list (l := has.map Value.bool) h.hh i (.bool true) rfl (by rw [List.length_map]; omega)
      rw [c1]
      unfold bools4
      rw [List.map_set]
    · have h2 := h.hh; rw [e, h2] at hc; simp [bools4] at hc
  · refine ⟨(f2 _ n5).trans h.blk, (f2 _ (Ne.symm h.ne)).trans h.hh, ?_, ⟨cs, (f2 _ (Ne.symm n4)).trans hcs, hsh.move fun k cells hc => f2 k fun e => ?_⟩, h.lh, by rw [List.length_set]; exact h.lg, h.ls, h.hn, h.loG, h.los, h.loh, h.log, h.ne⟩
    · have c1 := set_list (l := gone.map Value.bool) h.hg i (.bool true) rfl (by rw [List.length_map]; omega)
      rw [c1]
      unfold bools4
      rw [List.map_set]
    · have h2 := h.hg; rw [e, h2] at hc; simp [bools4] at hc
theorem st_shape {L : Loc} {n base : Nat} {W : World} {sh : List Shp} {has gone : List Bool} (h : StI L n base W sh has gone) (i : Nat) (hi : i < n) :
    ∃ O oc, W.cell? ⟨L.gs, i * 2, none⟩ = some (.slice O (sh.getD i ([], 0)).1.length oc) ∧ W.cell? ⟨L.gs, i * 2 + 1, none⟩ = some (.int .i64 (sh.getD i ([], 0)).2) ∧ (sh.getD i ([], 0)).1.length ≤ oc ∧ Kd.C (Kd.int .i64) W O (sh.getD i ([], 0)).1.length (sh.getD i ([], 0)).1 := by
  obtain ⟨cs, hcs, hsl, hsh⟩ := h.ss
  obtain ⟨v, hv, hv2, hown⟩ := hsh i hi
  obtain ⟨O, oc, rfl⟩ := own_slice hown
  refine ⟨O, oc, ?_, ?_, own_cap hown, RI_own hown⟩
  · rw [cell_of_row _ _ _ _ _ _ hcs]
    simpa [Nat.mul_comm] using hv
  · rw [cell_of_row _ _ _ _ _ _ hcs]
    simpa [Nat.mul_comm] using hv2
def RtPost (L : Loc) (n : Nat) (w0 W : World) (gone : List Bool) (r : (List Shp × List Bool) × Int) (e : Ending) (w' : World) : Prop :=
  e = .returned (.int .i64 r.2) ∧ StI L n w0.heap.size w' r.1.1 r.1.2 gone ∧ Below w0.heap.size w0 w' ∧ Fr L.gs L.gh W w'
section
variable {L : Loc} {n : Nat} {w0 W : World} {sh : List Shp} {has gone : List Bool} {S0 : Option Addr} {sc : Nat}
set_option maxRecDepth 100000 in
theorem rreach_end (hW : StI L n w0.heap.size W sh has gone) (hb : Below w0.heap.size w0 W) (s : Shp) :
    Calls Tryd.prog 139 #[.pointer (some ⟨L.G, 0, none⟩), .int .i64 n, .agg #[.slice S0 s.1.length sc, .int .i64 s.2]] W (RtPost L n w0 W gone ((sh, has), 26)) := by
  obtain ⟨x0, x1, x2⟩ := cells3V hW.blk
  have hG : L.G < W.heap.size := block_lt_of_cell x0
  have HW := Lib.hid hW
  have HB := Lib.hid hb
  have ht : ((n : Int) == (n : Int)) = true := by simp
  clear hW hb
  go_enter Tryd.func139, Tryd.ntmps139
  go_wp2_with fail
  go_ret
  have hA : Below W.heap.size W (W.alloc (obR S0 s.1.length sc s.2)) := (Below.refl _ _).alloc (Nat.le_refl _) _
  exact ⟨rfl, HW.out.below hA, HB.out.alloc HB.out.size _, Fr.of_below hA⟩
set_option maxRecDepth 100000 in
set_option maxHeartbeats 1600000 in
theorem rreach_len (hW : StI L n w0.heap.size W sh has gone) (hb : Below w0.heap.size w0 W) (i : Nat) (s : Shp) (hi : i < n) (hhas : has.getD i false = true) (hx : (sh.getD i ([], 0)).1.length ≠ s.1.length) :
    Calls Tryd.prog 139 #[.pointer (some ⟨L.G, 0, none⟩), .int .i64 i, .agg #[.slice S0 s.1.length sc, .int .i64 s.2]] W (RtPost L n w0 W gone ((sh, has), 22)) := by
  obtain ⟨x0, x1, x2⟩ := cells3V hW.blk
  have xh := cell_bools hW.hh i (by rw [hW.lh]; exact hi)
  rw [hhas] at xh
  obtain ⟨O, oc, y0, y1, hoc, hO⟩ := st_shape hW i hi
  obtain ⟨⟨o, oh⟩, hos⟩ : ∃ z, sh.getD i ([], 0) = z := ⟨_, rfl⟩
  rw [hos] at y0 y1 hx
  dsimp only at y0 y1 hx
  have hG : L.G < W.heap.size := block_lt_of_cell x0
  have hgs : L.gs < W.heap.size := block_lt_of_cell y0
  have hgh : L.gh < W.heap.size := block_lt_of_cell xh
  have i0 : (0 : Int) ≤ (i : Int) := by omega
  have i1 : (i : Int) < (n : Int) := by omega
  have ht : ((i : Int) == (n : Int)) = false := by rw [beq_eq_false_iff_ne]; omega
  have h1 : ((o.length : Int) != (s.1.length : Int)) = true := by rw [bne_iff_ne]; omega
  have HW := Lib.hid hW
  have HB := Lib.hid hb
  clear hW hb hO hoc hos hhas hx
  go_enter Tryd.func139, Tryd.ntmps139
  go_wp2_with fail
  have hA : Below W.heap.size W ((W.alloc (obR S0 s.1.length sc s.2)).alloc (obR O o.length oc oh)) := ((Below.refl _ _).alloc (Nat.le_refl _) _).alloc (by simp) _
  have HC := Lib.hid hA
  go_ret
  exact ⟨rfl, HW.out.below HC.out, HB.out.trans (HC.out.mono HB.out.size), Fr.of_below HC.out⟩
set_option maxRecDepth 100000 in
set_option maxHeartbeats 800000 in
theorem rreach_cmp (hW : StI L n w0.heap.size W sh has gone) (hb : Below w0.heap.size w0 W) (i : Nat) (s : Shp) (hi : i < n) (hhas : has.getD i false = true) (hs : Kd.C (Kd.int .i64) W S0 s.1.length s.1) (hl : s.1.length ≤ 100000) (hx : (sh.getD i ([], 0)).1.length = s.1.length)
    (R : Int) (hR : R = if (sh.getD i ([], 0)).1 ≠ s.1 then 21 else if (sh.getD i ([], 0)).2 ≠ s.2 then 25 else 0) :
    Calls Tryd.prog 139 #[.pointer (some ⟨L.G, 0, none⟩), .int .i64 i, .agg #[.slice S0 s.1.length sc, .int .i64 s.2]] W (RtPost L n w0 W gone ((sh, has), R)) := by
  obtain ⟨x0, x1, x2⟩ := cells3V hW.blk
  have xh := cell_bools hW.hh i (by rw [hW.lh]; exact hi)
  rw [hhas] at xh
  obtain ⟨O, oc, y0, y1, hoc, hO⟩ := st_shape hW i hi
  obtain ⟨⟨o, oh⟩, hos⟩ : ∃ z, sh.getD i ([], 0) = z := ⟨_, rfl⟩
  obtain ⟨s, sh2⟩ := s
  rw [hos] at y0 y1 hx hR hO
  dsimp only at y0 y1 hx hR hO hs hl ⊢
  rw [hx] at y0 hO
  obtain ⟨N, hN⟩ : ∃ N, s.length = N := ⟨_, rfl⟩
  rw [hN] at hs hl y0 hO ⊢
  have hG : L.G < W.heap.size := block_lt_of_cell x0
  have hgs : L.gs < W.heap.size := block_lt_of_cell y0
  have hgh : L.gh < W.heap.size := block_lt_of_cell xh
  have i0 : (0 : Int) ≤ (i : Int) := by omega
  have i1 : (i : Int) < (n : Int) := by omega
  have ht : ((i : Int) == (n : Int)) = false := by rw [beq_eq_false_iff_ne]; omega
  have h1 : ((N : Int) != (N : Int)) = false := by simp
  have hA : Below W.heap.size W ((W.alloc (obR S0 N sc sh2)).alloc (obR O N oc oh)) := ((Below.refl _ _).alloc (Nat.le_refl _) _).alloc (by simp) _
  have r0 := row_alloc (heap_alloc_new W (obR S0 N sc sh2)) (obR O N oc oh)
  have r1 := heap_alloc_new (W.alloc (obR S0 N sc sh2)) (obR O N oc oh)
  simp only [World.size_alloc] at r1
  have HW := Lib.hid hW
  have HB := Lib.hid hb
  have HS := Lib.hid (Kd.C_below hs hA)
  have HO := Lib.hid (Kd.C_below hO hA)
  have HA := Lib.hid hA
  have R0 := Lib.hid r0
  have R1 := Lib.hid r1
  have HR := Lib.hid hR
  have HN := Lib.hid hN
  have HX := Lib.hid hx
  have HL := Lib.hid hl
  clear hW hb hO hoc hos hhas hx hA r0 r1 hR hN hs hl
  go_enter Tryd.func139, Tryd.ntmps139
  go_wp2_with fail
  generalize (W.alloc (obR S0 N sc sh2)).alloc (obR O N oc oh) = V at HA HS HO R0 R1 ⊢
  clear x0 x1 x2 xh y0 y1 hG hgs hgh i0 i1 ht h1
  go_loopg [8] N (fun g s8 wx => ∃ j : Nat, j + g = N ∧ s8 = .int .i64 j ∧ Hid (o.take j = s.take j ∧ Below V.heap.size V wx))
  case atStart => exact ⟨0, by omega, rfl, Lib.hid ⟨by simp, Below.refl _ _⟩⟩
  case round =>
    obtain ⟨j, hjg, rfl, HJ⟩ := hrel
    obtain ⟨a0, a1⟩ := cells2V (row_kept HJ.out.2 R0.out)
    obtain ⟨b0, b1⟩ := cells2V (row_kept HJ.out.2 R1.out)
    have hl := HL.out
    cases gk with
    | zero =>
      have ht : decide ((j : Int) < (N : Int)) = false := by simp; omega
      have hos : o = s := by
        have h := HJ.out.1
        rwa [List.take_of_length_le (by have := HX.out; have := HN.out; omega), List.take_of_length_le (by have := HN.out; omega)] at h
      have hr := HR.out
      rw [if_neg (fun h => h hos)] at hr
      by_cases hz : oh = sh2
      · have t2 : (oh != sh2) = false := by rw [bne_eq_false_iff_eq]; exact hz
        rw [if_neg (fun h => h hz)] at hr
        subst hr
        clear hz hos hl
        go_wp2_with fail
        try rw [Exit.noGoto_ret]
        go_ret
        have hC := HA.out.trans (HJ.out.2.mono HA.out.size)
        exact ⟨rfl, HW.out.below hC, HB.out.trans (hC.mono HB.out.size), Fr.of_below hC⟩
      · have t2 : (oh != sh2) = true := by rw [bne_iff_ne]; exact hz
        rw [if_pos hz] at hr
        subst hr
        clear hz hos hl
        go_wp2_with fail
        try rw [Exit.noGoto_ret]
        go_ret
        have hC := HA.out.trans (HJ.out.2.mono HA.out.size)
        exact ⟨rfl, HW.out.below hC, HB.out.trans (hC.mono HB.out.size), Fr.of_below hC⟩
    | succ g =>
      have ht : decide ((j : Int) < (N : Int)) = true := by simp; omega
      obtain ⟨ao, eo, ho⟩ := Kd.at_int HO.out j (by omega) (by omega)
      obtain ⟨as1, es, hs⟩ := Kd.at_int HS.out j (by omega) (by omega)
      subst eo
      subst es
      rw [Int.toNat_natCast] at ho hs
      have ho := cell_be HJ.out.2 ho
      have hs := cell_be HJ.out.2 hs
      have j0 : (0 : Int) ≤ (j : Int) := by omega
      have j1 : (j : Int) < (N : Int) := by omega
      obtain ⟨x, hx⟩ : ∃ x, rd o j = x := ⟨_, rfl⟩
      obtain ⟨y, hy⟩ : ∃ y, rd s j = y := ⟨_, rfl⟩
      rw [hx] at ho
      rw [hy] at hs
      have hx' : o.getD j 0 = x := by rw [← hx]; simp only [rd, Int.toNat_natCast]
      have hy' : s.getD j 0 = y := by rw [← hy]; simp only [rd, Int.toNat_natCast]
      have hxs : o[j]? = some x := by
        rw [← hx']
        simp only [List.getD_eq_getElem?_getD]
        rw [List.getElem?_eq_getElem (by have := HX.out; have := HN.out; omega)]
        rfl
      have hys : s[j]? = some y := by
        rw [← hy']
        simp only [List.getD_eq_getElem?_getD]
        rw [List.getElem?_eq_getElem (by have := HN.out; omega)]
        rfl
      have HXY := Lib.hid (And.intro hxs hys)
      clear hx hy hx' hy' hxs hys
      by_cases hxy : x = y
      · have t2 : (x != y) = false := by rw [bne_eq_false_iff_eq]; exact hxy
        have HN2 : Hid (o.take (j + 1) = s.take (j + 1)) := Lib.hid (by rw [List.take_add_one, List.take_add_one, HJ.out.1, HXY.out.1, HXY.out.2, hxy])
        clear hxy
        go_upto_region 13 with fail
        go_quiet (fail)
        all_goals go_wp2_with fail
        go_roundg g
        case measure => omega
        case rel => exact ⟨j + 1, by omega, by first | rfl | simp, Lib.hid ⟨HN2.out, below_drewN0 HJ.out.2 _⟩⟩
      · have t2 : (x != y) = true := by rw [bne_iff_ne]; exact hxy
        have hne : o ≠ s := fun e => by
          have h1 := HXY.out.1
          rw [e, HXY.out.2] at h1
          exact hxy (Option.some.inj h1).symm
        have hr := HR.out
        rw [if_pos hne] at hr
        subst hr
        clear hxy hne
        go_upto_region 13 with fail
        go_quiet (fail)
        all_goals go_wp2_with fail
        try rw [Exit.noGoto_ret]
        go_ret
        exact ⟨rfl, HW.out.below (HA.out.trans ((below_drewN0 HJ.out.2 _).mono HA.out.size)), HB.out.trans ((HA.out.trans ((below_drewN0 HJ.out.2 _).mono HA.out.size)).mono HB.out.size), Fr.of_below (HA.out.trans ((below_drewN0 HJ.out.2 _).mono HA.out.size))⟩
set_option maxRecDepth 100000 in
set_option maxHeartbeats 1600000 in
theorem rreach_new (hW : StI L n w0.heap.size W sh has gone) (hb : Below w0.heap.size w0 W) (i : Nat) (s : Shp) (hi : i < n) (hhas : has.getD i false = false) (ho : W.ownsRow w0.heap.size 3 1 (.slice S0 s.1.length sc) s.1.length (nums .i64 s.1)) :
    Calls Tryd.prog 139 #[.pointer (some ⟨L.G, 0, none⟩), .int .i64 i, .agg #[.slice S0 s.1.length sc, .int .i64 s.2]] W (RtPost L n w0 W gone ((sh.set i s, has.set i true), 0)) := by
  obtain ⟨x0, x1, x2⟩ := cells3V hW.blk
  have xh := cell_bools hW.hh i (by rw [hW.lh]; exact hi)
  rw [hhas] at xh
  obtain ⟨n1, n2, n3, n4, n5⟩ := hW.nes
  obtain ⟨O, oc, y0, y1, hoc, hO⟩ := st_shape hW i hi
  obtain ⟨cs, hcs, -⟩ := hW.ss
  have hA : Below W.heap.size W (W.alloc (obR S0 s.1.length sc s.2)) := (Below.refl _ _).alloc (Nat.le_refl _) _
  have hG : L.G < W.heap.size := block_lt_of_cell x0
  have hgs : L.gs < W.heap.size := block_lt_of_cell y0
  have hgh : L.gh < W.heap.size := block_lt_of_cell xh
  have m1 : W.heap.size ≠ L.gh := by omega
  have m2 : W.heap.size ≠ L.gs := by omega
  have i0 : (0 : Int) ≤ (i : Int) := by omega
  have i1 : (i : Int) < (n : Int) := by omega
  have ht : ((i : Int) == (n : Int)) = false := by rw [beq_eq_false_iff_ne]; omega
  have fh := Lib.frozen_of_heap hW.hh i
  have fs := Lib.frozen_of_heap hcs (i * 2)
  have fs1 := Lib.frozen_of_heap hcs (i * 2 + 1)
  have HW := Lib.hid hW
  have HB := Lib.hid hb
  have HO := Lib.hid ho
  have HA := Lib.hid hA
  have HI := Lib.hid hi
  clear hW hb hO hoc hhas ho hA hcs hi
  go_enter Tryd.func139, Tryd.ntmps139
  go_upto_region 5 with fail
  obtain ⟨k0, k1⟩ := cells2V (heap_alloc_new W (obR S0 s.1.length sc s.2))
  go_region
  go_wp2_with fail
  go_ret
  have hst := st_set HW.out HI.out s HO.out
  have hbb := ((HB.out.setCell (p := ⟨L.gh, i, none⟩) HW.out.loh (.bool true)).setCell (p := ⟨L.gs, i * 2, none⟩) HW.out.los (.slice S0 s.1.length sc)).setCell (p := ⟨L.gs, i * 2 + 1, none⟩) HW.out.los (.int .i64 s.2)
  have hfr : Fr L.gs L.gh W (((W.setCell ⟨L.gh, i, none⟩ (.bool true)).setCell ⟨L.gs, i * 2, none⟩ (.slice S0 s.1.length sc)).setCell ⟨L.gs, i * 2 + 1, none⟩ (.int .i64 s.2)) := by
    refine ⟨by simp, fun k o hk h1 h2 => ?_⟩
    rw [Below.heap_setCell _ ⟨L.gs, i * 2 + 1, none⟩ _ k h1, Below.heap_setCell _ ⟨L.gs, i * 2, none⟩ _ k h1, Below.heap_setCell _ ⟨L.gh, i, none⟩ _ k h2]
    exact hk
  have hal : ∀ (Z : World) (o : Obj), Below Z.heap.size Z (Z.alloc o).drew := fun Z o => ((Below.refl _ _).alloc (Nat.le_refl _) _).drew
  exact ⟨rfl, hst.below (hal _ _), hbb.trans ((hal _ _).mono hbb.size), hfr.trans (Fr.of_below (hal _ _))⟩
theorem rreach_calls (hW : StI L n w0.heap.size W sh has gone) (hb : Below w0.heap.size w0 W) (q : Int) (h0 : 0 ≤ q) (hq : q ≤ n) (s : Shp) (ho : W.ownsRow w0.heap.size 3 1 (.slice S0 s.1.length sc) s.1.length (nums .i64 s.1)) (hl : s.1.length ≤ 100000) :
    Calls Tryd.prog 139 #[.pointer (some ⟨L.G, 0, none⟩), .int .i64 q, .agg #[.slice S0 s.1.length sc, .int .i64 s.2]] W (RtPost L n w0 W gone (reachS n sh has q s)) := by
  obtain ⟨i, rfl⟩ := Int.eq_ofNat_of_zero_le h0
  unfold reachS
  rw [Int.toNat_natCast]
  by_cases hq2 : (n : Int) ≤ (i : Int)
  · rw [if_pos hq2]
    obtain rfl : i = n := by omega
    exact rreach_end hW hb s
  · rw [if_neg hq2]
    have hi : i < n := by omega
    by_cases hh : has.getD i false = false
    · rw [if_pos hh]
      exact rreach_new hW hb i s hi hh ho
    · have hh : has.getD i false = true := by simpa using hh
      rw [if_neg (by rw [hh]; simp)]
      by_cases h1 : (sh.getD i ([], 0)).1.length = s.1.length
      · rw [if_neg (fun h => h h1)]
        have key := rreach_cmp hW hb i s hi hh (RI_own ho) hl h1 _ rfl (S0 := S0) (sc := sc)
        by_cases h2 : (sh.getD i ([], 0)).1 = s.1
        · rw [if_neg (fun h => h h2)] at key ⊢
          by_cases h3 : (sh.getD i ([], 0)).2 = s.2
          · rw [if_neg (fun h => h h3)] at key ⊢; exact key
          · rw [if_pos h3] at key ⊢; exact key
        · rw [if_pos h2] at key ⊢; exact key
      · rw [if_pos h1]
        exact rreach_len hW hb i s hi hh h1
end
end Go.Proofs.YtkphijabhoppnaaDoor
