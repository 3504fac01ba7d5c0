/- All places that are reached are gone through (brazier/verify.walk.all). -/
import Derived.Test.YtkphijabhoppnaaDoorAVl
import Derived.Deep.LoopGhost
import Derived.Deep.OwnRows
namespace Go.Proofs.YtkphijabhoppnaaDoor
open Go.RowKit Go.Proofs.YtkphijabhoppnaaDoorW.PrintWords
set_option linter.unusedSimpArgs false
set_option linter.unusedVariables false
def findS (n : Nat) (has done : List Bool) : Option Nat := (List.range n).find? fun i => has.getD i false && !done.getD i false
def allS (p : Pg) (m : Meth) (n : Nat) : Nat → List Shp → List Bool → List Bool → (Int × Int) × (List Shp × List Bool)
  | 0, sh, has, _ => ((0, 0), (sh, has))
  | f + 1, sh, has, done => match findS n has done with
    | none => ((0, 0), (sh, has))
    | some i => if (throughS p m n sh has i).2 ≠ 0 then (((i : Int), (throughS p m n sh has i).2), (throughS p m n sh has i).1) else allS p m n f (throughS p m n sh has i).1.1 (throughS p m n sh has i).1.2 (done.set i true)
theorem findS_least {n j : Nat} {P : Nat → Bool} (h : ∀ i, i < j → P i = false) (hj : j < n) (hp : P j = true) : (List.range n).find? P = some j := by
  rw [List.find?_range_eq_some]
  exact ⟨hp, List.mem_range.2 hj, fun i hi => by rw [h i hi]; rfl⟩
theorem findS_nothing {n : Nat} {P : Nat → Bool} (h : ∀ i, i < n → P i = false) : (List.range n).find? P = none := by
  rw [List.find?_range_eq_none]
  exact fun i hi => by rw [h i hi]; rfl
theorem count_done {done : List Bool} {i : Nat} (hi : i < done.length) (h : done.getD i false = false) : (done.set i true).count false + 1 = done.count false := by
  induction done generalizing i with
  | nil => simp at hi
  | cons a l ih =>
    cases i with
    | zero =>
      have : a = false := h
      subst this
      simp
    | succ i =>
      have hi' : i < l.length := by simpa using hi
      have := ih hi' (by simpa using h)
      rw [List.set_cons_succ, List.count_cons, List.count_cons]
      omega
theorem WkI.other {E : Env} {base T : Nat} {W W' : World} {sh : List Shp} {has d : List Bool} (h : WkI E base W sh has) (hT : W.heap[T]? = some (bools4 d)) (h1 : T ≠ E.gh) (h2 : T ≠ E.gb) (hf : ∀ k, k ≠ T → W'.heap[k]? = W.heap[k]?) : WkI E base W' sh has := by
  obtain ⟨cs, hcs, hsh⟩ := h.ss
  have n1 : E.G ≠ T := fun e => by have h1 := h.blk; rw [e, hT] at h1; simp [bools4] at h1
  have n2 : E.gs ≠ T := fun e => by rw [e, hT] at hcs; simp [bools4] at hcs
  refine ⟨(hf _ n1).trans h.blk, (hf _ (Ne.symm h2)).trans h.bb, (hf _ (Ne.symm h1)).trans h.hh, ⟨cs, (hf _ n2).trans hcs, hsh.move fun k cells hc => hf k fun e => ?_⟩, h.lb, h.lh, h.ls, h.hn, h.loG, h.los, h.loh, h.ne⟩
  rw [e, hT] at hc
  simp [bools4] at hc
theorem made_bools (n : Nat) : (Obj.cells (madeCells #[.bool false] n) 4 : Obj) = bools4 (List.replicate n false) := by
  unfold bools4
  congr 1
  apply Array.ext
  · simp [size_madeCells]
  · intro i h1 h2
    simp [madeCells, Nat.mod_one]
theorem wk_has {E : Env} {base : Nat} {W : World} {sh : List Shp} {has : List Bool} (h : WkI E base W sh has) {i : Nat} (hi : i < E.n) : WkI E base (W.setCell ⟨E.gh, i, none⟩ (.bool true)) sh (has.set i true) := by
  obtain ⟨cs, hcs, hsh⟩ := h.ss
  have n1 : E.G ≠ E.gh := fun e => by have h1 := h.blk; have h2 := h.hh; rw [e, h2] at h1; simp [bools4] at h1
  have n3 : E.gs ≠ E.gh := fun e => by have h1 := h.hh; rw [← e, hcs] at h1; simp [bools4] at h1
  have far : ∀ k, k ≠ E.gh → (W.setCell ⟨E.gh, i, none⟩ (.bool true)).heap[k]? = W.heap[k]? := fun k hk => Below.heap_setCell _ ⟨E.gh, i, none⟩ _ k hk
  refine ⟨(far _ n1).trans h.blk, (far _ h.ne).trans h.bb, ?_, ⟨cs, (far _ n3).trans hcs, hsh.move fun k cells hc => far k fun e => ?_⟩, h.lb, by rw [List.length_set]; exact h.lh, h.ls, h.hn, h.loG, h.los, h.loh, h.ne⟩
  · have hlh := h.lh
    have c1 := set_list (l := has.map Value.bool) h.hh i (.bool true) rfl (by rw [List.length_map]; omega)
    rw [c1]
    unfold bools4
    rw [List.map_set]
  · have h2 := h.hh
    rw [e, h2] at hc
    simp [bools4] at hc
def AllPost (E : Env) (w0 W : World) (r : (Int × Int) × (List Shp × List Bool)) (e : Ending) (w' : World) : Prop :=
  e = .returned (.tuple #[.int .i64 r.1.1, .int .i64 r.1.2]) ∧ WkI E w0.heap.size w' r.2.1 r.2.2 ∧ Below w0.heap.size w0 w' ∧ Fr E.gs E.gh W w'
section
variable {E : Env} {w0 W : World} {sh : List Shp} {has : List Bool} {I : List Shp → List Bool → Prop}
structure Keeps (E : Env) (I : List Shp → List Bool → Prop) : Prop where
  at' : ∀ sh has i, I sh has → i < E.n → has.getD i false = true → Good E.p E.m E.n i ∧ 0 ≤ (sh.getD i ([], 0)).2 ∧ (sh.getD i ([], 0)).2 ≤ 10 ∧ (sh.getD i ([], 0)).1.length ≤ 90000 ∧ (effectS E.p E.m (readAt E.m.f4 i).code (readAt E.m.f4 i).a (readAt E.m.f4 i).b (sh.getD i ([], 0))).1.1.length ≤ 100000
  on' : ∀ sh has i, I sh has → i < E.n → has.getD i false = true → (throughS E.p E.m E.n sh has i).2 = 0 → I (throughS E.p E.m E.n sh has i).1.1 (throughS E.p E.m E.n sh has i).1.2
set_option maxRecDepth 100000 in
set_option maxHeartbeats 3200000 in
theorem walk_all (hE : Out E w0) (hW : WkI E w0.heap.size W sh has) (hb : Below w0.heap.size w0 W) (hn0 : 0 < E.n) (hK : Keeps E I) (hI : I sh (has.set 0 true)) :
    Calls Tryd.prog 98 #[.pointer (some ⟨E.G, 0, none⟩)] W (AllPost E w0 W (allS E.p E.m E.n (E.n + 1) sh (has.set 0 true) (List.replicate E.n false))) := by
  have hn := hW.hn
  have hmk := run_make_row' (P := Tryd.prog) 73 4 (.bool false) 1 (by kernel_rfl) (by kernel_rfl) rfl .i64 .i64 E.n (by omega) (by omega)
  simp only [made_bools] at hmk
  obtain ⟨x8, x9, x10⟩ := cells11 hW.blk
  have hG : E.G < W.heap.size := block_lt_of_cell x8
  have xh := cell_bools hW.hh 0 (by rw [hW.lh]; exact hn0)
  have hgh : E.gh < W.heap.size := block_lt_of_cell xh
  have hgb : E.gb < W.heap.size := by
    have := cell_bools hW.bb 0 (by rw [hW.lb]; exact hn0)
    exact block_lt_of_cell this
  have hgs : E.gs < W.heap.size := by
    obtain ⟨O, oc, y0, -⟩ := shape_at hW 0 hn0
    exact block_lt_of_cell y0
  have fh := Lib.frozen_of_heap hW.hh 0
  have HW := Lib.hid hW
  have HB := Lib.hid hb
  have HE := Lib.hid hE
  have HK := Lib.hid hK
  have HI := Lib.hid hI
  have i1 : (0 : Int) < (E.n : Int) := by omega
  have m1 : W.heap.size ≠ E.gh := by omega
  have m2 : W.heap.size ≠ E.gb := by omega
  have m3 : W.heap.size ≠ E.gs := by omega
  have n1 : E.G ≠ E.gh := fun e => by have h1 := hW.blk; have h2 := hW.hh; rw [e, h2] at h1; simp [bools4] at h1
  clear hW hb hE hK hI
  go_enter Tryd.func98, Tryd.ntmps98
  go_wp2_with fail
  go_step3
  go_wp2_with fail
  go_step3
  go_wp2_with fail
  clear hmk fh xh x8 x9 x10
  have hV0 : WkI E w0.heap.size (W.setCell ⟨E.gh, 0, none⟩ (.bool true)) sh (has.set 0 true) := wk_has HW.out hn0
  have hV1 := hV0.below (W' := (W.setCell ⟨E.gh, 0, none⟩ (.bool true)).alloc (bools4 (List.replicate E.n false))) ((Below.refl _ _).alloc (Nat.le_refl _) _)
  have hB1 : Below w0.heap.size w0 ((W.setCell ⟨E.gh, 0, none⟩ (.bool true)).alloc (bools4 (List.replicate E.n false))) := (HB.out.setCell (p := ⟨E.gh, 0, none⟩) HW.out.loh _).alloc (by have := HB.out.size; simpa using this) _
  have hT1 : ((W.setCell ⟨E.gh, 0, none⟩ (.bool true)).alloc (bools4 (List.replicate E.n false))).heap[W.heap.size]? = some (bools4 (List.replicate E.n false)) := by
    have := heap_alloc_new (W.setCell ⟨E.gh, 0, none⟩ (.bool true)) (bools4 (List.replicate E.n false))
    simpa using this
  have hF1 : Fr E.gs E.gh W ((W.setCell ⟨E.gh, 0, none⟩ (.bool true)).alloc (bools4 (List.replicate E.n false))) :=
    ⟨by simp, fun k o hk _ h2 => row_alloc ((Below.heap_setCell _ ⟨E.gh, 0, none⟩ _ k h2).trans hk) _⟩
  generalize (W.setCell ⟨E.gh, 0, none⟩ (.bool true)).alloc (bools4 (List.replicate E.n false)) = V at hV1 hB1 hT1 hF1 ⊢
  have HF1 := Lib.hid hF1
  have HV1 := Lib.hid hV1
  have HB1 := Lib.hid hB1
  have HT1 := Lib.hid hT1
  have hTw : w0.heap.size ≤ W.heap.size := HB.out.size
  have HN := Lib.hid hn0
  obtain ⟨T, hT⟩ : ∃ T, W.heap.size = T := ⟨_, rfl⟩
  have HTT := Lib.hid hT
  rw [hT] at hTw m1 m2 m3
  simp only [hT]
  rw [hT] at HT1
  clear hV0 hV1 hB1 hT1 hF1 hG hgh hgb hgs hT hn0 i1 HW HB
  go_loopg [23] E.n (fun g s23 wx => ∃ (sh2 : List Shp) (has2 done : List Bool), Hid (done.length = E.n ∧ done.count false = g ∧ I sh2 has2 ∧ WkI E w0.heap.size wx sh2 has2 ∧ Below w0.heap.size w0 wx ∧ wx.heap[T]? = some (bools4 done) ∧ Fr E.gs E.gh W wx ∧ allS E.p E.m E.n (g + 1) sh2 has2 done = allS E.p E.m E.n (E.n + 1) sh (has.set 0 true) (List.replicate E.n false)))
  case atStart => exact ⟨sh, has.set 0 true, List.replicate E.n false, Lib.hid ⟨by simp, by simp, HI.out, HV1.out, HB1.out, HT1.out, HF1.out, rfl⟩⟩
  case round =>
    obtain ⟨g, rfl⟩ : ∃ g, g = gk := ⟨gk, rfl⟩
    obtain ⟨sh2, has2, done, HR⟩ := hrel
    clear HV1 HB1 HT1 HI HF1
    obtain ⟨x8, x9, x10⟩ := cells11 HR.out.2.2.2.1.blk
    have hnn := Lib.hid HN.out
    go_wp2_with fail
    have HX10 := Lib.hid x10
    clear x8 x9
    go_loopg [23] E.n (fun g2 s23 wy => ∃ j : Nat, j + g2 = E.n ∧ s23 = .int .i64 j ∧ Hid (∀ i, i < j → (has2.getD i false && !done.getD i false) = false) ∧ wr = wy)
    case atStart => exact ⟨0, by omega, rfl, Lib.hid (fun i hi => by omega), rfl⟩
    case round =>
      obtain ⟨j, hjg, rfl, HJ, rfl⟩ := hrel
      obtain ⟨q1, q2, q3, q4, q5, q6, qF, q7⟩ := HR.out
      have HQF := Lib.hid qF
      clear qF
      have hl2 := q4.lh
      cases gk with
      | zero =>
        have hfin : findS E.n has2 done = none := findS_nothing fun i hi => HJ.out i (by omega)
        have hans : allS E.p E.m E.n (E.n + 1) sh (has.set 0 true) (List.replicate E.n false) = ((0, 0), (sh2, has2)) := by rw [← q7, allS, hfin]
        have HA := Lib.hid hans
        have ht : decide ((j : Int) < (E.n : Int)) = false := by simp; omega
        have HB := Lib.hid q5
        have HQ4 := Lib.hid q4
        clear q1 q2 q3 q4 q5 q6 q7 hans hfin
        go_wp2_with fail
        try rw [Exit.noGoto_ret]
        go_ret2
        rw [HA.out]
        exact ⟨rfl, HQ4.out, HB.out, HQF.out⟩
      | succ g2 =>
        have hj : j < E.n := by omega
        have ht : decide ((j : Int) < (E.n : Int)) = true := by simp; omega
        have j0 : (0 : Int) ≤ (j : Int) := by omega
        have j1 : (j : Int) < (E.n : Int) := by omega
        have xh := cell_bools q4.hh j (by omega)
        have xd := cell_bools q6 j (by omega)
        have hx10 := HX10.out
        cases hh : has2.getD j false with
        | false =>
          rw [hh] at xh
          have HH := Lib.hid hh
          clear q1 q2 q3 q4 q5 q6 q7 hh
          go_wp2_with fail
          go_roundg g2
          case measure => omega
          case rel =>
            refine ⟨j + 1, by omega, by first | rfl | simp, Lib.hid fun i hi => ?_, rfl⟩
            by_cases hij : i = j
            · subst hij; rw [HH.out]; first | rfl | (rw [HD.out]; rfl)
            · exact HJ.out i (by omega)
        | true =>
          rw [hh] at xh
          have HH := Lib.hid hh
          cases hd : done.getD j false with
          | true =>
            rw [hd] at xd
            have HD := Lib.hid hd
            clear q1 q2 q3 q4 q5 q6 q7 hh hd
            go_wp2_with fail
            go_roundg g2
            case measure => omega
            case rel =>
              refine ⟨j + 1, by omega, by first | rfl | simp, Lib.hid fun i hi => ?_, rfl⟩
              by_cases hij : i = j
              · subst hij; rw [HH.out]; first | rfl | (rw [HD.out]; rfl)
              · exact HJ.out i (by omega)
          | false =>
            rw [hd] at xd
            have hfin : findS E.n has2 done = some j := findS_least (fun i hi => HJ.out i hi) hj (by rw [hh, hd]; rfl)
            have hst : allS E.p E.m E.n (g + 1) sh2 has2 done = if (throughS E.p E.m E.n sh2 has2 j).2 ≠ 0 then (((j : Int), (throughS E.p E.m E.n sh2 has2 j).2), (throughS E.p E.m E.n sh2 has2 j).1) else allS E.p E.m E.n g (throughS E.p E.m E.n sh2 has2 j).1.1 (throughS E.p E.m E.n sh2 has2 j).1.2 (done.set j true) := by rw [allS, hfin]
            obtain ⟨hgood, hh0, hh1, hlen, hfl⟩ := HK.out.at' sh2 has2 j q3 hj hh
            have hon := HK.out.on' sh2 has2 j q3 hj hh
            have hcnt := count_done (done := done) (i := j) (by omega) hd
            have fd := Lib.frozen_of_heap q6 j
            have w1 : WkI E w0.heap.size (wr.setCell ⟨T, j, none⟩ (.bool true)) sh2 has2 := q4.other q6 m1 m2 fun k hk => Below.heap_setCell _ ⟨T, j, none⟩ _ k hk
            have w2 : Below w0.heap.size w0 (wr.setCell ⟨T, j, none⟩ (.bool true)) := q5.setCell (p := ⟨T, j, none⟩) hTw _
            have hFd : Fr E.gs E.gh W (wr.setCell ⟨T, j, none⟩ (.bool true)) :=
              ⟨by have := HQF.out.1; simpa using this, fun k o hk h1 h2 => (Below.heap_setCell _ ⟨T, j, none⟩ _ k (by have := HTT.out; have := (Array.getElem?_eq_some_iff.1 hk).1; show k ≠ T; omega)).trans (HQF.out.2 k o hk h1 h2)⟩
            have HFD := Lib.hid hFd
            clear hFd
            have w3 : (wr.setCell ⟨T, j, none⟩ (.bool true)).heap[T]? = some (bools4 (done.set j true)) := by
              have c1 := set_list (l := done.map Value.bool) q6 j (.bool true) rfl (by rw [List.length_map]; omega)
              rw [c1]
              unfold bools4
              rw [List.map_set]
            have cT := through_calls HE.out w1 w2 j hgood hh0 hh1 hlen hfl
            obtain ⟨⟨⟨sh3, has3⟩, k⟩, hr⟩ : ∃ r, throughS E.p E.m E.n sh2 has2 j = r := ⟨_, rfl⟩
            rw [hr] at cT hst hon
            rw [q7] at hst
            have HON := Lib.hid hon
            have HST := Lib.hid hst
            have HC := Lib.hid hcnt
            have HQ2 := Lib.hid q2
            have HQ1 := Lib.hid q1
            have W3 := Lib.hid w3
            clear q1 q2 q3 q4 q5 q6 q7 hfin hst hon hcnt w1 w2 w3 hr hgood hh0 hh1 hlen hfl hh hd
            by_cases hk : k = 0
            · subst hk
              go_wp2_with (first | (go_at_call 136; refine cT.mono ?_; rintro e w4 ⟨rfl, hW4, hB4, hF4⟩))
              have hc1 := HC.out
              have hc2 := HQ2.out
              go_roundg ((done.set j true).count false)
              case measure => omega
              case rel =>
                refine ⟨sh3, has3, done.set j true, Lib.hid ⟨by rw [List.length_set]; exact HQ1.out, rfl, HON.out (by first | rfl | trivial), hW4, hB4, hF4.2 T _ W3.out m3 m1, HFD.out.trans hF4, ?_⟩⟩
                rw [show (done.set j true).count false + 1 = g by omega, HST.out]
                rfl
            · have hkt : (k != 0) = true := by simp [hk]
              go_wp2_with (first | (go_at_call 136; refine cT.mono ?_; rintro e w4 ⟨rfl, hW4, hB4, hF4⟩))
              try rw [Exit.noGoto_ret]
              go_ret2
              have h2 := HST.out
              rw [if_pos hk] at h2
              rw [h2]
              exact ⟨rfl, hW4, hB4, HFD.out.trans hF4⟩
end
end Go.Proofs.YtkphijabhoppnaaDoor
