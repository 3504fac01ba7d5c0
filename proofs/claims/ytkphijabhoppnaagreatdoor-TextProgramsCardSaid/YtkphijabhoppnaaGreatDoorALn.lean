/- An op's word (brazier/a64.Name). -/
import Derived.Test.YtkphijabhoppnaaGreatDoorALm
namespace Go.Proofs.YtkphijabhoppnaaGreatDoor
open Go.RowKit Go.Shelf Go.Proofs.YtkphijabhoppnaaGreatDoorW.PrintWords
set_option linter.unusedSimpArgs false
set_option linter.unusedVariables false
attribute [local go_sem] Oper.semAt_some
def litN : List UInt8 := (([117, 100, 102, 32, 110, 111, 112, 32, 109, 111, 118, 122, 32, 109, 111, 118, 107, 32, 97, 100, 100, 105, 32, 115, 117, 98, 105, 32, 115, 117, 98, 115, 105, 32, 97, 100, 100, 32, 115, 117, 98, 32, 115, 117, 98, 115].append [32, 97, 110, 100, 32, 111, 114, 114, 32, 101, 111, 114, 32, 109, 97, 100, 100, 32, 109, 115, 117, 98, 32, 115, 100, 105, 118, 32, 108, 115, 108, 118, 32, 108, 115, 114, 118, 32, 97, 115, 114, 118, 32, 99, 115, 105, 110]).append ([99, 32, 98, 32, 98, 46, 32, 99, 98, 122, 32, 99, 98, 110, 122, 32, 98, 108, 32, 98, 114, 32, 98, 108, 114, 32, 114, 101, 116, 32, 108, 100, 114, 32, 115, 116, 114, 32, 108, 100, 114, 98, 32, 108, 100, 114, 114].append [32, 115, 116, 114, 114, 32, 108, 100, 97, 114, 32, 115, 116, 108, 114, 32, 108, 100, 120, 114, 32, 115, 116, 120, 114, 32, 100, 109, 98, 32, 100, 115, 98, 32, 105, 115, 98, 32, 100, 99, 32, 105, 99, 32, 115, 118, 99]))
def nmV : Array Value := (nmT.map fun l => Value.string ⟨l.toArray⟩).toArray
set_option maxRecDepth 100000 in
theorem litN_fields : Lib.fields litN = nmT := by decide +kernel
set_option maxRecDepth 100000 in
theorem litN_ascii : ∀ b ∈ litN, b.toNat < 128 := by decide +kernel
theorem fieldsN (w : World) (hG : GlobT w) : Calls Tryz.prog 54 #[.string ⟨litN.toArray⟩] w fun e w' => e = .returned (.slice (some ⟨w.heap.size, 0, none⟩) 43 43) ∧ w' = w.alloc (.cells nmV 9) := by
  have h := Tryz.strings_Fields_laid ⟨litN.toArray⟩ w (by show litN.toArray.size < _; rw [List.size_toArray]; decide +kernel)
    (fun j b hb => litN_ascii b (List.mem_of_getElem? (by simpa using hb))) hG.sp
  rw [show (⟨litN.toArray⟩ : ByteArray).data.toList = litN from by simp, litN_fields] at h
  exact h
theorem nmV_at (op : Nat) (h : op < 43) : nmV[op]? = some (.string ⟨(nm5 (op : Int)).toArray⟩) := by
  have hl : op < nmT.length := by simpa [nmT] using h
  simp [nmV, nm5, hl]
theorem alloc_old {w : World} {g : Nat} {o o' : Obj} (h : w.heap[g]? = some o) : (w.alloc o').heap[g]? = some o :=
  (World.grownBy_alloc w o' none).block g (Array.getElem?_eq_some_iff.1 h).1 (by simp) |>.trans h
theorem load_b {V : World} {B ty : Nat} {v : Value} (hc : V.cell? ⟨B, 0, none⟩ = some v) (hu : (Tryz.prog.underlying ty).map TypeDesc.isRow = some false) : (loadVar ty ⟨B, 0, none⟩).run Tryz.prog V = .ok v V := by
  obtain ⟨d, hd, hr⟩ := Option.map_eq_some_iff.1 hu
  have hagg : (isAgg ty).run Tryz.prog V = .ok false V := by
    unfold isAgg
    cases d <;> first | (simp [TypeDesc.isRow] at hr; done) | simp [hd, underlying]
  unfold loadVar
  simp [hagg, hc]
theorem results_c1 {fn : Func} {p0 t0 : Nat} {tmps : Array Value} {V : World} {B0 : Nat} {v0 : Value} (h : fn.results = #[.cell p0 t0])
    (e0 : tmps.getD p0 undef = .pointer (some ⟨B0, 0, none⟩)) (l0 : (loadVar t0 ⟨B0, 0, none⟩).run Tryz.prog V = .ok v0 V) :
    (results fn tmps).run Tryz.prog V = .ok v0 V := by
  have q0 : tmps[p0]?.getD undef = .pointer (some ⟨B0, 0, none⟩) := by simpa using e0
  simp [results, h, q0, asAddr, l0]
theorem boxed_put {W : World} {D B t : Nat} {v : Value} (hK : W.heap[D]? = some (.deferred (some []))) (hb : Boxed W B t v) : Boxed (W.putObj D (.deferred none)) B t v := by
  refine (World.putObj_heap_other (fun e => ?_)).trans hb
  subst e
  unfold Boxed at hb
  rw [hK] at hb
  cases hb
set_option maxHeartbeats 1000000 in
set_option maxRecDepth 100000 in
theorem Name_calls (op : Nat) (h : op < 43) (w : World) (hG : GlobT w) :
    Calls Tryz.prog 27 #[.int .i64 op] w fun e w' => e = .returned (.string ⟨(nm5 (op : Int)).toArray⟩) ∧ Below w.heap.size w w' := by
  have HF := Lib.hid (fun W h => fieldsN W h)
  have HO := Lib.hid (fun W => ops_calls W)
  have HG := Lib.hid hG
  have HN := Lib.hid (nmV_at op h)
  clear hG
  refine (callsIn_wide (n := 6)).1 ?_
  refine callsIn_of_wp_marks Tryz.func27 rfl trivial ?_ rfl
  simp only [Tryz.ntmps27, List.size_toArray, List.length_cons, List.length_nil, Nat.reduceAdd, Nat.reduceSub, Array.replicate_succ, Array.replicate_zero, List.push_toArray, List.append_toArray, List.nil_append, List.cons_append]
  refine wpIn_wide.2 ?_
  go_wp2_with (first | (go_at_call 54; refine (HF.out _ (HG.out.below (((Below.refl _ w).alloc (Nat.le_refl _) _).alloc (by simp) _))).mono ?_; rintro e w4 ⟨rfl, rfl⟩) | (go_at_call 26; refine (HO.out _).mono ?_; rintro e w5 ⟨rfl, rfl⟩) | fail)
  simp only [Nat.add_assoc, Nat.reduceAdd]
  obtain ⟨W0, hW0⟩ : ∃ W0, ((((w.alloc (Obj.cells #[Value.int IntKind.i64 op] 3)).alloc (Obj.cells #[Value.string ⟨#[]⟩] 9)).alloc (Obj.cells nmV 9)).alloc (Obj.cells #[Value.slice (some ⟨w.heap.size + 2, 0, none⟩) 43 43] 67)) = W0 := ⟨_, rfl⟩
  have hB0 : Below w.heap.size w W0 := by
    rw [← hW0]
    exact ((((Below.refl _ w).alloc (Nat.le_refl _) _).alloc (by simp) _).alloc (by simp; omega) _).alloc (by simp; omega) _
  have hz : W0.heap.size = w.heap.size + 4 := by rw [← hW0]; simp
  have z0 : Boxed W0 w.heap.size 3 (.int .i64 op) := by rw [← hW0]; exact (((Boxed.new w 3 _).alloc _).alloc _).alloc _
  have z1 : Boxed W0 (w.heap.size + 1) 9 (.string ⟨#[]⟩) := by
    rw [← hW0]
    have := Boxed.new (w.alloc (Obj.cells #[Value.int IntKind.i64 op] 3)) 9 (.string ⟨#[]⟩)
    rw [World.size_alloc] at this
    exact (this.alloc _).alloc _
  have z2 : W0.heap[w.heap.size + 2]? = some (Obj.cells nmV 9 (0, 0)) := by
    rw [← hW0]
    have := heap_alloc_new ((w.alloc (Obj.cells #[Value.int IntKind.i64 op] 3)).alloc (Obj.cells #[Value.string ⟨#[]⟩] 9)) (Obj.cells nmV 9)
    rw [World.size_alloc, World.size_alloc, Nat.add_assoc] at this
    exact alloc_old this
  have z3 : Boxed W0 (w.heap.size + 3) 67 (.slice (some ⟨w.heap.size + 2, 0, none⟩) 43 43) := by
    rw [← hW0]
    have := Boxed.new (((w.alloc (Obj.cells #[Value.int IntKind.i64 op] 3)).alloc (Obj.cells #[Value.string ⟨#[]⟩] 9)).alloc (Obj.cells nmV 9)) 67 (.slice (some ⟨w.heap.size + 2, 0, none⟩) 43 43)
    rw [World.size_alloc, World.size_alloc, World.size_alloc, Nat.add_assoc, Nat.add_assoc] at this
    exact this
  rw [hW0]
  clear hW0
  have h0 := And.intro (And.intro (And.intro z0 z1) (And.intro z2 z3)) (And.intro (And.intro hB0 (show w.heap.size + 2 ≤ W0.heap.size by omega)) (show ∀ y ∈ ([] : List (Fin 43)), y.val ≠ op by simp))
  refine (wpIn_wide (n := 6)).1 ?_
  refine rangeFunc_fr rfl (by omega) (gf := 53) (lb := #[]) rfl trivial (enters_of Tryz.func53 (by kernel_rfl) rfl)
    (ops_stops _ (by omega) W0) (fun _ _ => trivial) (fun _ _ _ _ _ _ _ _ => trivial) (Below.refl _ _) (fun _ => rfl)
    (fun pre W => (((Boxed W w.heap.size 3 (.int .i64 op) ∧ Boxed W (w.heap.size + 1) 9 (.string ⟨#[]⟩)) ∧ (W.heap[w.heap.size + 2]? = some (Obj.cells nmV 9 (0, 0)) ∧ Boxed W (w.heap.size + 3) 67 (.slice (some ⟨w.heap.size + 2, 0, none⟩) 43 43))) ∧
      ((Below w.heap.size w W ∧ w.heap.size + 2 ≤ W.heap.size) ∧ ∀ y ∈ pre, y.val ≠ op)))
    (fun c pre W => (Boxed W (w.heap.size + 1) 9 (.string ⟨(nm5 (op : Int)).toArray⟩) ∧ (Below w.heap.size w W ∧ w.heap.size + 2 ≤ W.heap.size)) ∧ c = .ret)
    ?hI ?hIx h0 (fun x b W => True) (fun _ _ _ _ _ _ _ _ _ => trivial) (fun x b a => (a.setIfInBounds 7 (.int .i64 x.val)).setIfInBounds 4 (.int .i64 x.val)) ?assign ?body ?done ?stop
  case hI =>
    exact OwnFrom.and (OwnFrom.and (OwnFrom.and (Own.from (boxed_own _ _ _) _) (Own.from (boxed_own _ _ _) _)) (OwnFrom.and (Own.from (row_own _ (fun _ => nmV) _) _) (Own.from (boxed_own _ _ _) _)))
      (OwnFrom.and (OwnFrom.and (ownFrom_below (Nat.le_refl _) (by omega)) (fun s A B row hs hg hr => Nat.le_trans hs hg.size)) (ownFrom_pure _ _))
  case hIx =>
    exact fun c => OwnFrom.and (OwnFrom.and (Own.from (boxed_own _ _ _) _) (OwnFrom.and (ownFrom_below (Nat.le_refl _) (by omega)) (fun s A B row hs hg hr => Nat.le_trans hs hg.size))) (ownFrom_pure _ _)
  case assign =>
    rintro q pre x W K hI hK
    dsimp only [opE]
    gi_wp2
    exact hK 0 W (KeepsFrom.refl _ _) trivial hI trivial
  case body =>
    rintro q pre x b W hq ⟨r, hr⟩ ⟨⟨⟨b0, b1⟩, b2, b3⟩, ⟨hb, hs⟩, ho⟩ - hlt
    have HO := Lib.hid ho
    have HH := Lib.hid (And.intro hb hs)
    have c0 := b0.cell
    have c3 := b3.cell
    have HB := Lib.hid (And.intro b0 (And.intro b1 (And.intro b2 b3)))
    have hx := x.2
    by_cases hxo : x.val = op
    · have q1 : ((x.val : Int) == (op : Int)) = true := by rw [hxo]; simp
      have q2 : (x.val : Int) = (op : Int) := by rw [hxo]
      have c2 := cell_of_row _ _ op _ _ _ b2
      rw [HN.out] at c2
      have f1 := b1.frozen
      have c1 := b1.cell
      have HX := Lib.hid q2
      clear ho hb hs b0 b1 b2 b3
      rw [q2]
      gi_wp2_with fail
      obtain ⟨b0, b1, b2, b3⟩ := HB.out
      exact ⟨(KeepsOthers.setCell _ _ _).from _, ⟨b1.set _, HH.out.1.setCell (p := ⟨w.heap.size + 1, 0, none⟩) (by simp) _, by simpa [World.setCell] using HH.out.2⟩, rfl⟩
    · have q1 : ((x.val : Int) == (op : Int)) = false := by rw [beq_eq_false_iff_ne]; omega
      have q2 : ¬ ((x.val : Int) = (op : Int)) := by omega
      clear ho hb hs b0 b1 b2 b3
      gi_wp2_with fail
      obtain ⟨b0, b1, b2, b3⟩ := HB.out
      refine ⟨KeepsFrom.refl _ _, trivial, ⟨⟨⟨b0, b1⟩, b2, b3⟩, HH.out, ?_⟩⟩
      intro y hy
      rcases List.mem_append.1 hy with hy | hy
      · exact HO.out y hy
      · simp only [List.mem_singleton] at hy
        subst hy
        exact hxo
  case done =>
    rintro D ys W hD rfl ⟨-, -, ho⟩ hK
    exact absurd rfl (ho ⟨op, h⟩ (List.mem_finRange _))
  case stop =>
    rintro D c pre W hD hpre ⟨⟨b1, hb, hs⟩, rfl⟩ hK
    gi_wp2_with fail
    refine ⟨by simp, .inl ⟨_, _, rfl, run_takeDeferred hK, ?_⟩⟩
    refine ⟨_, results_c1 (fn := Tryz.f27) rfl rfl (load_b (boxed_put hK b1).cell (by kernel_rfl)), ?_⟩
    exact ⟨rfl, hb.trans (belowK_b (w := w) (Nat.le_refl _) _ D _ _ (by omega) hK rfl rfl)⟩
end Go.Proofs.YtkphijabhoppnaaGreatDoor
