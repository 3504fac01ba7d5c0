/- Where bytecodes begin (brazier/code.Places). -/
import Derived.Test.YtkphijabhoppnaaDoorCj
import Derived.Maps.AppendAt
namespace Go.Proofs.YtkphijabhoppnaaDoor
open Go.RowKit Go.Shelf
open Go.Proofs.YtkphijabhoppnaaDoorW.PrintWords (grown_of_below nums)
set_option linter.unusedSimpArgs false
set_option linter.unusedVariables false
attribute [local go_sem] Oper.semAt_some

/-- Where what has come ends. -/
def endO (pre : List (Nat × Rd)) : Int := match pre.getLast? with
  | none => 0
  | some x => wrap64 (x.1 + x.2.size)
theorem endO_snoc (pre : List (Nat × Rd)) (x : Nat × Rd) : endO (pre ++ [x]) = wrap64 (x.1 + x.2.size) := by simp [endO]
def plcs (pre : List (Nat × Rd)) : List Int := pre.map fun x => (x.1 : Int)
def placesS (l : List Int) : List Int × Int := if endO (opsL l) < l.length then ([], (readS l (endO (opsL l))).err) else (plcs (opsL l), 0)

theorem endO_cons (x : Nat × Rd) (xs : List (Nat × Rd)) : endO (x :: xs) = if xs = [] then wrap64 ((x.1 : Int) + x.2.size) else endO xs := by
  cases xs with
  | nil => simp [endO]
  | cons y ys => simp [endO, List.getLast?_cons_cons]
theorem end_from (l : List Int) (hl : l.length ≤ 1000000) : ∀ (f i : Nat), l.length ≤ i + f → i ≤ l.length → opsFrom l f i ≠ [] →
    ∃ E : Nat, endO (opsFrom l f i) = E ∧ E ≤ l.length ∧ (E < l.length → (readAt l E).err ≠ 0) := by
  intro f
  induction f with
  | zero => intro i _ _ h; simp [opsFrom] at h
  | succ f ih =>
    intro i hf hi hne
    by_cases hlt : i < l.length
    · by_cases he : (readAt l i).err = 0
      · have hs := readAt_size l i he
        have hend := readAt_end l i hlt he
        have e : opsFrom l (f + 1) i = (i, readAt l i) :: opsFrom l f (i + (readAt l i).size.toNat) := by rw [opsFrom, if_pos hlt, if_pos he]
        rw [e, endO_cons]
        by_cases hx : opsFrom l f (i + (readAt l i).size.toNat) = []
        · rw [if_pos hx]
          refine ⟨i + (readAt l i).size.toNat, by dsimp only; unfold wrap64; omega, hend, fun h2 h3 => ?_⟩
          cases f with
          | zero => omega
          | succ f => rw [opsFrom, if_pos h2, if_pos h3] at hx; cases hx
        · rw [if_neg hx]
          exact ih _ (by omega) hend hx
      · rw [opsFrom, if_pos hlt, if_neg he] at hne; exact absurd rfl hne
    · rw [opsFrom, if_neg hlt] at hne; exact absurd rfl hne
theorem ops_end (l : List Int) (hlen : l.length ≤ 1000000) : ∃ E : Nat, endO (opsL l) = E ∧ E ≤ l.length ∧ (E < l.length → (readAt l E).err ≠ 0) := by
  by_cases h : opsL l = []
  · refine ⟨0, by rw [h]; rfl, Nat.zero_le _, fun h2 h3 => ?_⟩
    unfold opsL at h
    cases hl : l.length with
    | zero => omega
    | succ f => rw [hl, opsFrom, if_pos h2, if_pos h3] at h; cases h
  · exact end_from l hlen l.length 0 (by omega) (by omega) h

theorem info3 : (Tryd.prog.info? 3).map (fun i => (i.zero, i.size, i.bytes)) = some (some (.int .i64 0), 1, 8) := by kernel_rfl

def PlPost (w : World) (l : List Int) (e : Ending) (w' : World) : Prop :=
  ∃ v, e = .returned (.tuple #[v, .int .i64 (placesS l).2]) ∧ w'.ownsRow w.heap.size 3 1 v (placesS l).1.length (nums .i64 (placesS l).1) ∧ Below w.heap.size w w'

theorem row_own {β : Type} (B : Nat) (f : β → Array Value) (t : TypeId) : Own (fun s W => W.heap[B]? = some (Obj.cells (f s) t (0, 0))) := fun s X Y row hs hg hr => by
  refine (hg.block B (Array.getElem?_eq_some_iff.1 hs).1 fun e => ?_).trans hs
  obtain ⟨o, ho, hc⟩ := hr B e.symm
  rw [hs] at ho
  cases ho
  simp [Obj.isCells] at hc
theorem row_ne {W : World} {base : Nat} {e : TypeId} {size n : Nat} {v : Value} {xs : List Value} (h : W.ownsRow base e size v n xs) {g : Nat} {cs : Array Value} {t : TypeId} {fr : Nat × Nat} (hg : W.heap[g]? = some (Obj.cells cs t fr)) (hte : t ≠ e) : some g ≠ v.ownBlock := by
  rcases h.2 with ⟨rfl, _⟩ | ⟨k, cap, cur, rfl, _, hk, _⟩
  · simp [Value.ownBlock]
  · intro he
    have : g = k := by simpa [Value.ownBlock] using he
    subst this
    rw [hg] at hk
    cases hk
    exact hte rfl
theorem row_ge {W : World} {base : Nat} {e : TypeId} {size n : Nat} {v : Value} {xs : List Value} (h : W.ownsRow base e size v n xs) (k : Nat) (hk : v.ownBlock = some k) : base ≤ k := by
  rcases h.2 with ⟨rfl, _⟩ | ⟨g, cap, cur, rfl, hb, _⟩
  · simp [Value.ownBlock] at hk
  · have : g = k := by simpa [Value.ownBlock] using hk
    omega
theorem row_base {W : World} {base base' : Nat} {e : TypeId} {size n : Nat} {v : Value} {xs : List Value} (h : W.ownsRow base e size v n xs) (hb : base' ≤ base) : W.ownsRow base' e size v n xs := by
  refine ⟨h.1, ?_⟩
  rcases h.2 with h2 | ⟨g, cap, cur, h1, h2, h3⟩
  · exact .inl h2
  · exact .inr ⟨g, cap, cur, h1, Nat.le_trans hb h2, h3⟩
theorem row_own2 {β : Type} (base : Nat) (e size : Nat) (v : β → Value) (k : β → Nat) (f : β → List Value) : Own (fun s W => W.ownsRow base e size (v s) (k s) (f s)) := fun s X Y row hs hg hr => by
  refine hs.kept hg ?_
  cases hv : (v s).ownBlock with
  | none => exact .inl rfl
  | some g =>
    refine .inr fun h => ?_
    obtain ⟨o, ho, hc⟩ := hr g h.symm
    rcases hs.2 with ⟨h1, _⟩ | ⟨k', cap, cur, h1, _, hk, _⟩
    · rw [h1] at hv; simp [Value.ownBlock] at hv
    · rw [h1] at hv
      have : k' = g := by simpa [Value.ownBlock] using hv
      subst this
      rw [hk] at ho
      cases ho
      simp [Obj.isCells] at hc

theorem app_below {W w1 : World} {n₁ : Nat} {e : TypeId} {size n : Nat} {v : Value} {xs : List Value} {tmp : Obj} (hrow : W.ownsRow n₁ e size v n xs) (hn : n₁ ≤ W.heap.size)
    (hg : (W.alloc tmp).grownBy w1 v.ownBlock) : Below n₁ W w1 :=
  ((Below.refl n₁ W).alloc hn tmp).grown hg (by simp; omega) (row_ge hrow)
theorem app_row {W w1 : World} {n₁ : Nat} {e : TypeId} {size n : Nat} {v : Value} {xs : List Value} {tmp : Obj} (hrow : W.ownsRow n₁ e size v n xs)
    (hg : (W.alloc tmp).grownBy w1 v.ownBlock) {g : Nat} {cs : Array Value} {t : TypeId} {fr : Nat × Nat} (h : W.heap[g]? = some (Obj.cells cs t fr)) (hte : t ≠ e) : w1.heap[g]? = some (Obj.cells cs t fr) :=
  (hg.block g (by have := (Array.getElem?_eq_some_iff.1 h).1; simp; omega) (row_ne hrow h hte)).trans (row_alloc h tmp)
theorem app_others {W w1 : World} {n₁ : Nat} {e : TypeId} {size n : Nat} {v : Value} {xs : List Value} {tmp : Obj} (hrow : W.ownsRow n₁ e size v n xs)
    (hg : (W.alloc tmp).grownBy w1 v.ownBlock) : KeepsOthers W w1 := by
  refine (KeepsOthers.alloc W tmp).trans (KeepsOthers.of_grownBy hg fun j o ej hj => ?_)
  rcases (hrow.alloc tmp).2 with ⟨rfl, _⟩ | ⟨g, cap, cur, rfl, _, hgb, _⟩
  · simp [Value.ownBlock] at ej
  · obtain rfl : g = j := by simpa [Value.ownBlock] using ej
    rw [hgb] at hj; cases hj; rfl
theorem boxed_be {B n₁ : Nat} {W w1 : World} {t : TypeId} {v : Value} (h : Boxed W B t v) (hb : Below n₁ W w1) (hlt : B < n₁) : Boxed w1 B t v := (hb.block B hlt).trans h

set_option maxRecDepth 100000 in
set_option maxHeartbeats 2000000 in
theorem places_calls (v : Value) (l : List Int) (w : World) (hlen : l.length ≤ 1000000) (hb : Byt w v l) (hG : Glob w) : Calls Tryd.prog 16 #[v] w (PlPost w l) := by
  refine (callsIn_wide (n := 6)).1 ?_
  obtain ⟨A, c, hv, hnc, hcm, hby, hcl⟩ := id hb
  subst hv
  have HB := Lib.hid hb
  have HG := Lib.hid hG
  clear hb hG hby hcl
  obtain ⟨i0, hi, hz0, hz1, hz2⟩ := info_parts info3
  refine callsIn_of_wp_marks Tryd.func16 rfl trivial ?_ rfl
  simp only [Tryd.ntmps16, List.size_toArray, List.length_cons, List.length_nil, Nat.reduceAdd, Nat.reduceSub, Array.replicate_succ, Array.replicate_zero, List.push_toArray, List.append_toArray, List.nil_append, List.cons_append]
  gi_wp2_with (first | (refine ⟨trivial, ?_⟩; gi_at_call 20; refine (callsIn_wide.2 (all_calls _ _ _ _)).mono ?_; rintro e w' ⟨rfl, rfl⟩) | fail)
  have bO := ((Boxed.new w 33 (.slice none 0 0)).alloc (.cells #[.int .i64 0] 3)).alloc (.cells #[.slice A l.length c] 22)
  have bE := (Boxed.new (w.alloc (.cells #[.slice none 0 0] 33)) 3 (.int .i64 0)).alloc (.cells #[.slice A l.length c] 22)
  have bS := Boxed.new ((w.alloc (.cells #[.slice none 0 0] 33)).alloc (.cells #[.int .i64 0] 3)) 22 (.slice A l.length c)
  simp only [World.size_alloc] at bE bS
  have hB0 : Below w.heap.size w (((w.alloc (.cells #[.slice none 0 0] 33)).alloc (.cells #[.int .i64 0] 3)).alloc (.cells #[.slice A l.length c] 22)) := (((Below.refl _ w).alloc (Nat.le_refl _) _).alloc (by simp) _).alloc (by simp; omega) _
  have hsz : (((w.alloc (.cells #[.slice none 0 0] 33)).alloc (.cells #[.int .i64 0] 3)).alloc (.cells #[.slice A l.length c] 22)).heap.size = w.heap.size + 3 := by simp
  obtain ⟨W0, hW0⟩ : ∃ W0, ((w.alloc (.cells #[.slice none 0 0] 33)).alloc (.cells #[.int .i64 0] 3)).alloc (.cells #[.slice A l.length c] 22) = W0 := ⟨_, rfl⟩
  rw [hW0] at bO bE bS hB0 hsz ⊢
  clear hW0
  refine wpIn_rangeFunc_ownH rfl (by omega) (gf := 52) (lb := #[.pointer (some ⟨w.heap.size + 1 + 1, 0, none⟩)]) rfl trivial (enters_of Tryd.func52 (by kernel_rfl) rfl)
    (all_stops _ (by omega) (w.heap.size + 1 + 1) _ l W0 hlen bS.cell (HB.out.below hB0) (HG.out.below hB0)) KpB.trans KpB.put (Below.refl _ _) (fun _ => rfl)
    (fun pre W => ((∃ v, Boxed W w.heap.size 33 v ∧ W.ownsRow (w.heap.size + 3) 3 1 v (plcs pre).length ((plcs pre).map (Value.int .i64)) ∧ True) ∧ Boxed W (w.heap.size + 1) 3 (.int .i64 (endO pre))) ∧ Below w.heap.size w W ∧ w.heap.size + 3 ≤ W.heap.size)
    (fun _ _ _ => False)
    (OwnFrom.and (OwnFrom.and (Own.from (holdsRow_own (w.heap.size + 3) w.heap.size 33 3 1 (fun pre => (plcs pre).length) (fun pre => (plcs pre).map (Value.int .i64)) (fun _ _ => True)) _) (Own.from (boxed_own _ _ _) _)) (OwnFrom.and (ownFrom_below (Nat.le_refl _) (by omega)) (fun s A B row hs hg hr => Nat.le_trans hs hg.size)))
    (fun _ _ _ _ _ hs _ _ => hs)
    ⟨⟨⟨_, bO, World.ownsRow_nil _ _ _ _, trivial⟩, bE⟩, hB0, by omega⟩
    (fun x a' W => ∃ Bx, w.heap.size + 3 ≤ Bx ∧ W.heap[Bx]? = some (Obj.cells #[.int .i64 x.2.code, .int .i64 x.2.a, .int .i64 x.2.b, .int .i64 x.2.size] 25 (0, 0)) ∧ a' = { tmps := #[.slice A l.length c, undef, .slice none 0 0, .int .i64 0, .pointer (some ⟨w.heap.size, 0, none⟩), .pointer (some ⟨w.heap.size + 1, 0, none⟩), .int .i64 x.1, .pointer (some ⟨Bx, 0, none⟩), undef, undef, .slice A l.length c, .func (.func 52) #[] #[.pointer (some ⟨w.heap.size + 1 + 1, 0, none⟩)], .int .i64 x.1, opV x.2, undef, undef, undef, undef, undef, undef, undef, undef, undef, undef, undef, undef, undef, undef, undef, undef, undef, undef, undef, undef], defers := [] })
    (fun x a' _ X Y row hs hg hr => by obtain ⟨Bx, h1, h2, h3⟩ := hs; exact ⟨Bx, h1, row_own Bx (fun (_ : Unit) => #[.int .i64 x.2.code, .int .i64 x.2.a, .int .i64 x.2.b, .int .i64 x.2.size]) 25 () X Y row h2 hg (fun r e => (hr r e).2), h3⟩)
    ?assign ?body ?done ?stop
  case assign =>
    rintro q pre x W K ⟨⟨⟨v, bv, hrow, -⟩, bE1⟩, hB1, hs1⟩ hK
    simp only [encO, opV]
    gi_wp2
    exact hK _ _ ((KeepsOthers.alloc _ _).from _) (KpB.below ((Below.refl _ W).alloc (Nat.le_refl _) _)) ⟨⟨⟨v, bv.alloc _, hrow.alloc _, trivial⟩, bE1.alloc _⟩, hB1.alloc hB1.size _, by simp; omega⟩ ⟨W.heap.size, hs1, heap_alloc_new W _, rfl⟩
  case body =>
    rintro q pre x a' W hq ⟨r, hr⟩ ⟨⟨⟨v, bv, hrow, -⟩, bE1⟩, hB1, hs1⟩ ⟨Bx, hBx, bX, rfl⟩ hlt
    have hcv := bv.cell
    have hX3 := cell_of_row _ _ 3 _ _ _ bX
    simp only [List.getElem?_toArray, List.getElem?_cons_succ, List.getElem?_cons_zero] at hX3
    have hpl : (plcs pre).length = pre.length := by simp [plcs]
    have HV := Lib.hid bv
    have HR := Lib.hid hrow
    have HX := Lib.hid bX
    have HE := Lib.hid bE1
    have HB1 := Lib.hid hB1
    have HQ := Lib.hid hr
    have HPL := Lib.hid hpl
    clear bv hrow bX bE1 hB1 hr hpl
    obtain ⟨p, ⟨code, ra, rb, size, err⟩⟩ := x
    dsimp only at hX3
    gi_wp2_with (first | (gi_at_builtin; refine wpListIn_append_own _ rfl _ _ 33 rfl (w.heap.size + 3) 3 i0 (.int .i64 0) 1 8 Tryd.underlying33 hi hz0 hz1 hz2 rfl (by decide) _ _ _ rfl (HR.out.alloc _) ⟨W.heap.size, 0, none⟩ 1 1 [.int .i64 p] rfl rfl (cell_one_new _ _ _) (by simp [Value.oneCell']) (by have := HPL.out; unfold maxLen; omega) (by have := HPL.out; omega) (by simp; omega) ?_; intro v' w1 hown' hgrow _; obtain ⟨g', cap', rfl⟩ := ownsRow_succ hown'; have hbl := app_below HR.out hs1 hgrow; have bo1 := boxed_be HV.out hbl (by omega); have be1 := boxed_be HE.out hbl (by omega); have hx1 := app_row HR.out hgrow HX.out (by decide); have hc1 := bo1.cell; have hf1 := bo1.frozen; have hc2 := be1.cell; have hf2 := be1.frozen; have hX1 := cell_of_row _ _ 3 _ _ _ hx1; simp only [List.getElem?_toArray, List.getElem?_cons_succ, List.getElem?_cons_zero] at hX1; have HBL := Lib.hid hbl; have BO1 := Lib.hid bo1; have BE1 := Lib.hid be1; have HX1 := Lib.hid hx1; have HOWN := Lib.hid hown'; have HGR := Lib.hid hgrow; clear hbl bo1 be1 hx1 hown' hgrow) | fail)
    have hk1 : KeepsOthers W ((w1.setCell ⟨w.heap.size, 0, none⟩ (.slice (some ⟨g', 0, none⟩) ((plcs pre).length + 1) cap')).setCell ⟨w.heap.size + 1, 0, none⟩ (.int .i64 (wrap64 (p + size)))) :=
      ((app_others HR.out HGR.out).trans (KeepsOthers.setCell _ _ _)).trans (KeepsOthers.setCell _ _ _)
    have hbW : Below w.heap.size W ((w1.setCell ⟨w.heap.size, 0, none⟩ (.slice (some ⟨g', 0, none⟩) ((plcs pre).length + 1) cap')).setCell ⟨w.heap.size + 1, 0, none⟩ (.int .i64 (wrap64 (p + size)))) :=
      ((HBL.out.mono (B' := w.heap.size) (by omega)).setCell (p := ⟨w.heap.size, 0, none⟩) (Nat.le_refl _) _).setCell (p := ⟨w.heap.size + 1, 0, none⟩) (by simp) _
    refine ⟨hk1.from _, ⟨fun _ => HB.out.below (HB1.out.trans hbW), fun h => ?_, fun _ => HG.out.below (HB1.out.trans hbW), fun g cs h => ?_, hk1.size⟩, ⟨⟨⟨_, (BO1.out.set _).other (by omega) _, ?_⟩, ?_⟩, HB1.out.trans hbW, Nat.le_trans hs1 hk1.size⟩⟩
    · exact (World.cell?_of_block (w := w1) ((heap_setCell_other _ ⟨w.heap.size + 1, 0, none⟩ (w.heap.size + 1 + 1) _ (show w.heap.size + 1 + 1 ≠ w.heap.size + 1 by omega)).trans (heap_setCell_other _ ⟨w.heap.size, 0, none⟩ (w.heap.size + 1 + 1) _ (show w.heap.size + 1 + 1 ≠ w.heap.size by omega)))).trans ((HBL.out.cell (p := ⟨w.heap.size + 1 + 1, 0, none⟩) (show w.heap.size + 1 + 1 < w.heap.size + 3 by omega)).trans h)
    · have h1 := app_row HR.out HGR.out h (by decide)
      have n1 : g ≠ w.heap.size := by rintro rfl; have := HV.out; unfold Boxed at this; rw [h] at this; cases this
      have n2 : g ≠ w.heap.size + 1 := by rintro rfl; have := HE.out; unfold Boxed at this; rw [h] at this; cases this
      exact ((heap_setCell_other _ ⟨w.heap.size + 1, 0, none⟩ g _ n2).trans (heap_setCell_other _ ⟨w.heap.size, 0, none⟩ g _ n1)).trans h1
    · have := ownsRow_setCell_below (ownsRow_setCell_below HOWN.out (a := ⟨w.heap.size, 0, none⟩) (show w.heap.size < w.heap.size + 3 by omega) (.slice (some ⟨g', 0, none⟩) ((plcs pre).length + 1) cap')) (a := ⟨w.heap.size + 1, 0, none⟩) (show w.heap.size + 1 < w.heap.size + 3 by omega) (.int .i64 (wrap64 (p + size)))
      simpa [plcs] using this
    · rw [endO_snoc]
      exact (BE1.out.other (by omega) _).set _
  case done =>
    rintro D ys W hD rfl ⟨⟨⟨v, bv, hrow, -⟩, bE1⟩, hB1, hs1⟩ hK
    obtain ⟨E, hE, hEl, hErr⟩ := ops_end l hlen
    have hcv := bv.cell
    rw [hE] at bE1
    have hce := bE1.cell
    by_cases hlt : E < l.length
    · have hpl : placesS l = ([], (readAt l E).err) := by
        unfold placesS
        rw [hE, if_pos (by omega), readS_at l E hlt]
      obtain ⟨r, hr⟩ : ∃ r, readAt l E = r := ⟨_, rfl⟩
      rw [hr] at hpl
      have hrd : Calls Tryd.prog 13 #[.slice A l.length c, .int .i64 E] W fun e w' => e = .returned (Rd.val r) ∧ Below W.heap.size W w' := by
        have := read_calls (.slice A l.length c) l E W (HG.out.below hB1) (HB.out.below hB1)
        rwa [readS_at l E hlt, hr] at this
      have HRD := Lib.hid hrd
      have HPL := Lib.hid hpl
      have HBB := Lib.hid hB1
      have HKK := Lib.hid hK
      have HRR := Lib.hid hrow
      clear hrd hpl hr hErr hE hB1 hrow bv bE1 hK
      obtain ⟨code, ra, rb, size, err⟩ := r
      gi_wp2_with (first | (refine ⟨trivial, ?_⟩; gi_at_call 13; refine (callsIn_wide.2 HRD.out).mono ?_; rintro e w2 ⟨rfl, hb2⟩; unfold Rd.val; dsimp only; have HB2 := Lib.hid hb2; clear hb2) | fail)
      refine ⟨by simp, .inl ⟨_, _, rfl, run_takeDeferred (row_alloc (row_kept HB2.out HKK.out) _), ?_⟩⟩
      refine ⟨_, results_tmp2 (fn := Tryd.f16) rfl _ _ _, ?_⟩
      rw [PlPost, HPL.out]
      have hb : Below w.heap.size w (w2.alloc (Obj.cells #[.int .i64 code, .int .i64 ra, .int .i64 rb, .int .i64 size] 25)) := ((HBB.out.trans (HB2.out.mono HBB.out.size)).alloc (Nat.le_trans HBB.out.size HB2.out.size) _)
      exact ⟨_, rfl, World.ownsRow_nil _ _ _ _, hb.trans (belowK_b (w := w) (Nat.le_refl _) _ D _ _ (by omega) (row_alloc (row_kept HB2.out HKK.out) _) rfl rfl)⟩
    · have hE2 : E = l.length := by omega
      have hpl : placesS l = (plcs (opsL l), 0) := by
        unfold placesS
        rw [hE, if_neg (by omega)]
      have HPL := Lib.hid hpl
      have HBB := Lib.hid hB1
      have HKK := Lib.hid hK
      have HRR := Lib.hid hrow
      clear hpl hErr hE hB1 hrow bv bE1 hK hlt hEl
      subst hE2
      gi_wp2_with fail
      refine ⟨by simp, .inl ⟨_, _, rfl, run_takeDeferred HKK.out, ?_⟩⟩
      refine ⟨_, results_tmp2 (fn := Tryd.f16) rfl _ _ _, ?_⟩
      rw [PlPost, HPL.out]
      exact ⟨_, rfl, ownsRow_putObj (row_base HRR.out (by omega)) _ HKK.out rfl, HBB.out.trans (belowK_b (w := w) (Nat.le_refl _) _ D _ _ (by omega) HKK.out rfl rfl)⟩
  case stop =>
    rintro D c pre W _ _ h _
    exact h.elim
end Go.Proofs.YtkphijabhoppnaaDoor
