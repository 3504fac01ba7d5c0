/- Whether a program may be (brazier/class.Check). -/
import Derived.Test.YtkphijabhoppnaaDoorAVr
import Derived.Test.YtkphijabhoppnaaDoorAVg
namespace Go.Proofs.YtkphijabhoppnaaDoor
open Go.RowKit Go.Proofs.YtkphijabhoppnaaDoorW.PrintWords
set_option linter.unusedSimpArgs false
set_option linter.unusedVariables false
def SmallP (p : Pg) : Prop := p.pool.length ≤ 2000000 ∧ p.classes.length ≤ 2000000 ∧ p.methods.length ≤ 2000000 ∧ (∀ m ∈ p.methods, m.f0.length ≤ 2000000 ∧ m.f2.length ≤ 2000000 ∧ m.f4.length ≤ 2000000) ∧ ∀ c ∈ p.classes, c.length ≤ 2000000
def ChkPost (w : World) (r : Int) (e : Ending) (w' : World) : Prop := e = .returned (.int .i64 r) ∧ Below w.heap.size w w'
theorem meth_at (p : Pg) (j : Nat) (hj : j < p.methods.length) : PVerifyMethods.rd_T64 p.methods j = p.methods[j] := by
  simp [PVerifyMethods.rd_T64, List.getD_eq_getElem?_getD, hj]
theorem sizes_zero {m : Meth} (h : sizesS m = 0) : m.f0.length + m.f2.length ≤ 40 ∧ (0 ≤ m.f3 ∧ m.f3 ≤ 40) ∧ (0 < m.f4.length ∧ m.f4.length ≤ 4096) := by
  unfold sizesS at h
  by_cases h1 : 40 < m.f0.length + m.f2.length ∨ 40 < m.f3 ∨ 4096 < m.f4.length
  · rw [if_pos h1] at h; simp at h
  · rw [if_neg h1] at h
    by_cases h2 : m.f3 < 0 ∨ m.f1 < 0 ∨ 2 < m.f1
    · rw [if_pos h2] at h; simp at h
    · rw [if_neg h2] at h
      by_cases h3 : m.f4.length = 0
      · rw [if_pos h3] at h; simp at h
      · omega
theorem flat_len {α β : Type} (f : α → List β) (k : Nat) : ∀ l : List α, (∀ x ∈ l, (f x).length ≤ k) → ((l.map f).flatten).length ≤ k * l.length
  | [], _ => by simp
  | x :: xs, h => by
    have h1 := flat_len f k xs fun y hy => h y (List.mem_cons_of_mem _ hy)
    have h2 := h x (by simp)
    rw [List.map_cons, List.flatten_cons, List.length_append, List.length_cons, Nat.mul_add]
    omega
theorem types_len (p : Pg) (hw : ∀ c ∈ p.classes, c.length ≤ 50) (hs : ∀ m ∈ p.methods, m.f0.length + m.f2.length ≤ 40) : (typesS p).length ≤ 50 * p.classes.length + 40 * p.methods.length := by
  unfold typesS
  rw [List.length_append]
  have h1 := flat_len (fun c : List Fld => c.map fun f => f.f0) 50 p.classes fun c hc => by simpa using hw c hc
  have h2 := flat_len (fun m : Meth => m.f0 ++ m.f2) 40 p.methods fun m hm => by simpa using hs m hm
  omega
section
variable {w : World} {A0 A1 A2 : Option Addr} {c0 c1 c2 : Nat} {p : Pg}
set_option maxRecDepth 100000 in
set_option maxHeartbeats 1600000 in
theorem check_many (hp : PgC w A0 c0 A1 c1 A2 c2 p) (h : 200 < p.pool.length ∨ 50 < p.classes.length ∨ 100 < p.methods.length) :
    Calls Tryd.prog 55 #[.agg #[.slice A0 p.pool.length c0, .slice A1 p.classes.length c1, .slice A2 p.methods.length c2]] w (ChkPost w 2) := by
  have hA : Below w.heap.size w (w.alloc (obP A0 c0 A1 c1 A2 c2 p)) := (Below.refl _ w).alloc (Nat.le_refl _) _
  by_cases t1 : 200 < (p.pool.length : Int)
  · have t1 : decide (200 < (p.pool.length : Int)) = true := decide_eq_true t1
    go_enter Tryd.func55, Tryd.ntmps55
    go_wp2_with fail
    go_ret
    exact ⟨rfl, hA⟩
  · have u1 : decide (200 < (p.pool.length : Int)) = false := decide_eq_false t1
    by_cases t2 : 50 < (p.classes.length : Int)
    · have t2 : decide (50 < (p.classes.length : Int)) = true := decide_eq_true t2
      go_enter Tryd.func55, Tryd.ntmps55
      go_wp2_with fail
      go_ret
      exact ⟨rfl, hA⟩
    · have u2 : decide (50 < (p.classes.length : Int)) = false := decide_eq_false t2
      have t3 : decide (100 < (p.methods.length : Int)) = true := decide_eq_true (by omega)
      go_enter Tryd.func55, Tryd.ntmps55
      go_wp2_with fail
      go_ret
      exact ⟨rfl, hA⟩
set_option maxRecDepth 100000 in
set_option maxHeartbeats 1600000 in
theorem check_wide (hp : PgC w A0 c0 A1 c1 A2 c2 p) (h : ¬ (200 < p.pool.length ∨ 50 < p.classes.length ∨ 100 < p.methods.length)) (hw : wideS p = true) :
    Calls Tryd.prog 55 #[.agg #[.slice A0 p.pool.length c0, .slice A1 p.classes.length c1, .slice A2 p.methods.length c2]] w (ChkPost w 2) := by
  have hA : Below w.heap.size w (w.alloc (obP A0 c0 A1 c1 A2 c2 p)) := (Below.refl _ w).alloc (Nat.le_refl _) _
  have hC := contains_fields (c := c1) (Kd.C_below hp.r1 hA) (by omega)
  change Calls Tryd.prog 89 _ _ (fun e w' => e = .returned (.bool (wideS p)) ∧ _) at hC
  rw [hw] at hC
  have u1 : decide (200 < (p.pool.length : Int)) = false := decide_eq_false (by omega)
  have u2 : decide (50 < (p.classes.length : Int)) = false := decide_eq_false (by omega)
  have u3 : decide (100 < (p.methods.length : Int)) = false := decide_eq_false (by omega)
  go_enter Tryd.func55, Tryd.ntmps55
  go_wp2_with (first | (go_at_call 89; refine hC.mono ?_; rintro e w1 ⟨rfl, rfl⟩))
  go_ret
  exact ⟨rfl, hA⟩
set_option maxRecDepth 100000 in
set_option maxHeartbeats 1600000 in
theorem check_none (hp : PgC w A0 c0 A1 c1 A2 c2 p) (h : ¬ (200 < p.pool.length ∨ 50 < p.classes.length ∨ 100 < p.methods.length)) (hw : wideS p = false) (hn : p.methods.length = 0) :
    Calls Tryd.prog 55 #[.agg #[.slice A0 p.pool.length c0, .slice A1 p.classes.length c1, .slice A2 p.methods.length c2]] w (ChkPost w 3) := by
  have hA : Below w.heap.size w (w.alloc (obP A0 c0 A1 c1 A2 c2 p)) := (Below.refl _ w).alloc (Nat.le_refl _) _
  have hC := contains_fields (c := c1) (Kd.C_below hp.r1 hA) (by omega)
  change Calls Tryd.prog 89 _ _ (fun e w' => e = .returned (.bool (wideS p)) ∧ _) at hC
  rw [hw] at hC
  have u1 : decide (200 < (p.pool.length : Int)) = false := decide_eq_false (by omega)
  have u2 : decide (50 < (p.classes.length : Int)) = false := decide_eq_false (by omega)
  have u3 : decide (100 < (p.methods.length : Int)) = false := decide_eq_false (by omega)
  have u4 : ((p.methods.length : Int) == 0) = true := by simp [hn]
  clear hn hw h
  go_enter Tryd.func55, Tryd.ntmps55
  go_wp2_with (first | (go_at_call 89; refine hC.mono ?_; rintro e w1 ⟨rfl, rfl⟩))
  go_ret
  exact ⟨rfl, hA⟩
set_option maxRecDepth 100000 in
set_option maxHeartbeats 3200000 in
theorem check_rest (hp : PgC w A0 c0 A1 c1 A2 c2 p) (hs : SmallP p) (h : ¬ (200 < p.pool.length ∨ 50 < p.classes.length ∨ 100 < p.methods.length)) (hw : wideS p = false) (hn : p.methods.length ≠ 0) :
    Calls Tryd.prog 55 #[.agg #[.slice A0 p.pool.length c0, .slice A1 p.classes.length c1, .slice A2 p.methods.length c2]] w (ChkPost w (if firstS p.methods ≠ 0 then firstS p.methods else if oddS p = true ∨ beginsP p = false then 1 else 0)) := by
  have hA : Below w.heap.size w (w.alloc (obP A0 c0 A1 c1 A2 c2 p)) := (Below.refl _ w).alloc (Nat.le_refl _) _
  have hR := heap_alloc_new w (obP A0 c0 A1 c1 A2 c2 p)
  have hC := contains_fields (c := c1) (Kd.C_below hp.r1 hA) (by omega)
  change Calls Tryd.prog 89 _ _ (fun e w' => e = .returned (.bool (wideS p)) ∧ _) at hC
  rw [hw] at hC
  have u1 : decide (200 < (p.pool.length : Int)) = false := decide_eq_false (by omega)
  have u2 : decide (50 < (p.classes.length : Int)) = false := decide_eq_false (by omega)
  have u3 : decide (100 < (p.methods.length : Int)) = false := decide_eq_false (by omega)
  have u4 : ((p.methods.length : Int) == 0) = false := by simp; intro h; exact hn (by simp [h])
  obtain ⟨r, hr⟩ : ∃ r, (if firstS p.methods ≠ 0 then firstS p.methods else if oddS p = true ∨ beginsP p = false then 1 else 0) = r := ⟨_, rfl⟩
  rw [hr]
  have HRR := Lib.hid hr
  have HNN := Lib.hid hn
  have HP := Lib.hid hp
  have HS := Lib.hid hs
  have HA := Lib.hid hA
  have HR := Lib.hid hR
  have HN := Lib.hid h
  have HW := Lib.hid hw
  clear hp hs hA hR h hw hn hr
  go_enter Tryd.func55, Tryd.ntmps55
  go_wp2_with (first | (go_at_call 89; refine hC.mono ?_; rintro e w1 ⟨rfl, rfl⟩))
  clear hC u1 u2 u3 u4
  obtain ⟨V, hV⟩ : ∃ V, w.alloc (obP A0 c0 A1 c1 A2 c2 p) = V := ⟨_, rfl⟩
  rw [hV] at HA HR
  simp only [hV]
  clear hV
  go_loopg [36] p.methods.length (fun g s36 wx => ∃ j : Nat, j + g = p.methods.length ∧ s36 = .int .i64 j ∧ Hid (firstS (p.methods.take j) = 0 ∧ Below w.heap.size w wx ∧ wx.heap[w.heap.size]? = some (obP A0 c0 A1 c1 A2 c2 p)))
  case atStart => exact ⟨0, by omega, rfl, Lib.hid ⟨rfl, HA.out, HR.out⟩⟩
  case round =>
    obtain ⟨j, hjg, rfl, HJ⟩ := hrel
    have hnl := HN.out
    cases gk with
    | zero =>
      have ht : decide ((j : Int) < (p.methods.length : Int)) = false := by simp; omega
      have hf : firstS p.methods = 0 := by
        have := HJ.out.1
        rwa [List.take_of_length_le (by omega)] at this
      have hr := HRR.out
      rw [if_neg (by simp [hf])] at hr
      have hsz := (first_zero _).1 hf
      have hsum : ∀ m ∈ p.methods, m.f0.length + m.f2.length ≤ 40 := fun m hm => (sizes_zero (hsz m hm)).1
      have hwd : ∀ c ∈ p.classes, c.length ≤ 50 := fun c hc => by
        have := List.any_eq_false.1 HW.out c hc
        simpa [wideC] using this
      obtain ⟨k, hk⟩ := types_eq p (by omega) hwd (by omega) hsum
      have hT := fun (w1 : World) (hb : Below w.heap.size w w1) => PVerifyMethods.class_types.calls k A0 c0 p.pool A1 c1 p.classes A2 c2 p.methods (typesS p) w1 (Kd.C_below HP.out.r0 hb) HP.out.h0 (Kd.C_below HP.out.r1 hb) HP.out.h1 (Kd.C_below HP.out.r2 hb) HP.out.h2 hk
      have hB := fun (w1 : World) (hb : Below w.heap.size w w1) => PVerifyMethods.class_begins.calls A0 c0 p.pool A1 c1 p.classes A2 c2 p.methods (beginsP p) w1 (Kd.C_below HP.out.r0 hb) HP.out.h0 (Kd.C_below HP.out.r1 hb) HP.out.h1 (Kd.C_below HP.out.r2 hb) HP.out.h2 (begins_eq p (by have := HNN.out; omega))
      have htl : (typesS p).length ≤ 1000000 := by have := types_len p hwd hsum; omega
      obtain ⟨y0, y1, y2⟩ := cells3V HJ.out.2.2
      have HT := Lib.hid hT
      have HB := Lib.hid hB
      have HR2 := Lib.hid hr
      have HTL := Lib.hid htl
      clear hT hB hr htl hf hsz hsum hwd hk hnl
      cases ho : oddS p with
      | true =>
        have HO := Lib.hid ho
        have hr := HR2.out
        rw [if_pos (.inl ho)] at hr
        have HR3 := Lib.hid hr
        clear hr ho
        go_wp2_with (first | (go_at_call 93; go_loud (refine (HT.out _ HJ.out.2.1).mono ?_; rintro e w1 ⟨v, rfl, hv, hb1⟩; obtain ⟨A, c, hve, hle, hC⟩ := RI.of_own (Kd.own_of_R hv); have hcc := contains_types (c := c) hC HTL.out; change Calls Tryd.prog 92 _ _ (fun e w' => e = .returned (.bool (oddS p)) ∧ _) at hcc; rw [HO.out] at hcc; subst hve)) | (go_at_call 92; refine hcc.mono ?_; rintro e w2 ⟨rfl, rfl⟩))
        try rw [Exit.noGoto_ret]
        go_ret
        exact ⟨by rw [← HR3.out]; rfl, HJ.out.2.1.trans (hb1.mono HJ.out.2.1.size)⟩
      | false =>
        have HO := Lib.hid ho
        have hr := HR2.out
        obtain ⟨b, hb⟩ : ∃ b, beginsP p = b := ⟨_, rfl⟩
        have hr : (if b = false then (1 : Int) else 0) = r := by
          rw [← hr, hb, ho]
          cases b <;> rfl
        rw [hb] at HB
        have HR3 := Lib.hid hr
        clear hr ho hb
        cases b with
        | false =>
          go_wp2_with (first | (go_at_call 93; refine (HT.out _ HJ.out.2.1).mono ?_; rintro e w1 ⟨v, rfl, hv, hb1⟩; obtain ⟨A, c, hve, hle, hC⟩ := RI.of_own (Kd.own_of_R hv); have hcc := contains_types (c := c) hC HTL.out; change Calls Tryd.prog 92 _ _ (fun e w' => e = .returned (.bool (oddS p)) ∧ _) at hcc; rw [HO.out] at hcc; subst hve; obtain ⟨z0, z1, z2⟩ := cells3V (row_kept hb1 HJ.out.2.2); have HB1 := Lib.hid (HJ.out.2.1.trans (hb1.mono HJ.out.2.1.size)); clear hb1 hC hv hle y0 y1 y2) | (go_at_call 92; refine hcc.mono ?_; rintro e w2 ⟨rfl, rfl⟩) | (go_at_call 96; refine (HB.out _ HB1.out).mono ?_; rintro e w3 ⟨rfl, hb3⟩))
          try rw [Exit.noGoto_ret]
          go_ret
          exact ⟨by rw [← HR3.out]; rfl, HB1.out.trans (hb3.mono HB1.out.size)⟩
        | true =>
          go_wp2_with (first | (go_at_call 93; refine (HT.out _ HJ.out.2.1).mono ?_; rintro e w1 ⟨v, rfl, hv, hb1⟩; obtain ⟨A, c, hve, hle, hC⟩ := RI.of_own (Kd.own_of_R hv); have hcc := contains_types (c := c) hC HTL.out; change Calls Tryd.prog 92 _ _ (fun e w' => e = .returned (.bool (oddS p)) ∧ _) at hcc; rw [HO.out] at hcc; subst hve; obtain ⟨z0, z1, z2⟩ := cells3V (row_kept hb1 HJ.out.2.2); have HB1 := Lib.hid (HJ.out.2.1.trans (hb1.mono HJ.out.2.1.size)); clear hb1 hC hv hle y0 y1 y2) | (go_at_call 92; refine hcc.mono ?_; rintro e w2 ⟨rfl, rfl⟩) | (go_at_call 96; refine (HB.out _ HB1.out).mono ?_; rintro e w3 ⟨rfl, hb3⟩))
          try rw [Exit.noGoto_ret]
          go_ret
          exact ⟨by rw [← HR3.out]; rfl, HB1.out.trans (hb3.mono HB1.out.size)⟩
    | succ g =>
      have hj : j < p.methods.length := by omega
      have ht : decide ((j : Int) < (p.methods.length : Int)) = true := by simp; omega
      have j0 : (0 : Int) ≤ (j : Int) := by omega
      have j1 : (j : Int) < (p.methods.length : Int) := by omega
      obtain ⟨ad, B0, d0, B2, d2, B4, d4, rfl, m0, m1, m2, m3, m4, l0, g0, l2, g2, l4, g4⟩ := PVerifyMethods.at_T64 HP.out.r2 j j0 j1
      rw [Int.toNat_natCast] at m0 m1 m2 m3 m4
      have m0 := cell_be HJ.out.2.1 m0
      have m1 := cell_be HJ.out.2.1 m1
      have m2 := cell_be HJ.out.2.1 m2
      have m3 := cell_be HJ.out.2.1 m3
      have m4 := cell_be HJ.out.2.1 m4
      have hmem : p.methods[j] ∈ p.methods := List.getElem_mem hj
      have hsm := HS.out.2.2.2.1 _ hmem
      have htk : p.methods.take (j + 1) = p.methods.take j ++ [p.methods[j]] := (List.take_append_getElem hj).symm
      have hfs := first_snoc p.methods[j] (p.methods.take j) HJ.out.1
      rw [← htk] at hfs
      rw [meth_at p j hj] at m0 m1 m2 m3 m4 l0 g0 l2 g2 l4 g4
      have hpre : p.methods.take (j + 1) <+: p.methods := List.take_prefix _ _
      have hfp : sizesS p.methods[j] ≠ 0 → firstS p.methods = sizesS p.methods[j] := fun h => by rw [← hfs] at h ⊢; exact first_prefix hpre h
      obtain ⟨m, hm⟩ : ∃ m, p.methods[j] = m := ⟨_, rfl⟩
      rw [hm] at m0 m1 m2 m3 m4 l0 g0 l2 g2 l4 g4 hsm hfs hfp
      have hSz := fun (w1 : World) (hb : Below w.heap.size w w1) => PVerifyMethods.class_sizes.calls 3 B0 d0 m.f0 m.f1 B2 d2 m.f2 m.f3 B4 d4 m.f4 (sizesS m) w1 (Kd.C_below g0 hb) l0 (Kd.C_below g2 hb) l2 (Kd.C_below g4 hb) l4 (sizes_eq m (by omega) hsm.2.1 hsm.1)
      obtain ⟨z, hz⟩ : ∃ z, sizesS m = z := ⟨_, rfl⟩
      rw [hz] at hSz hfs hfp
      have HSZ := Lib.hid hSz
      have HFS := Lib.hid hfs
      have HFP := Lib.hid hfp
      have hba : Below w.heap.size w (wr.alloc (obM B0 d0 B2 d2 B4 d4 m)) := HJ.out.2.1.alloc HJ.out.2.1.size _
      have hra := row_alloc HJ.out.2.2 (obM B0 d0 B2 d2 B4 d4 m)
      have HBA := Lib.hid hba
      have HRA := Lib.hid hra
      clear hSz hfs hfp g0 g2 g4 l0 l2 l4 hsm hz hm htk hpre hmem hba hra
      by_cases hz0 : z = 0
      · subst hz0
        go_wp2_with (first | (go_at_call 91; refine (HSZ.out _ HBA.out).mono ?_; rintro e w2 ⟨rfl, hb2⟩))
        go_roundg g
        case measure => omega
        case rel => exact ⟨j + 1, by omega, by first | rfl | simp, Lib.hid ⟨HFS.out, HBA.out.trans (hb2.mono HBA.out.size), row_kept hb2 HRA.out⟩⟩
      · have ht2 : (z != 0) = true := by simpa using hz0
        go_wp2_with (first | (go_at_call 91; refine (HSZ.out _ HBA.out).mono ?_; rintro e w2 ⟨rfl, hb2⟩))
        try rw [Exit.noGoto_ret]
        go_ret
        have hr := HRR.out
        rw [HFP.out hz0, if_pos hz0] at hr
        rw [hr]
        exact ⟨rfl, HBA.out.trans (hb2.mono HBA.out.size)⟩
theorem check_calls (hp : PgC w A0 c0 A1 c1 A2 c2 p) (hs : SmallP p) :
    Calls Tryd.prog 55 #[.agg #[.slice A0 p.pool.length c0, .slice A1 p.classes.length c1, .slice A2 p.methods.length c2]] w (ChkPost w (checkS p)) := by
  unfold checkS
  by_cases h : 200 < p.pool.length ∨ 50 < p.classes.length ∨ 100 < p.methods.length
  · rw [if_pos (by omega)]
    exact check_many hp h
  · by_cases hw : wideS p = true
    · rw [if_pos (.inr (.inr (.inr hw)))]
      exact check_wide hp h hw
    · have hw' : wideS p = false := by simpa using hw
      rw [if_neg (fun k => k.elim (fun k => h (.inl k)) fun k => k.elim (fun k => h (.inr (.inl k))) fun k => k.elim (fun k => h (.inr (.inr k))) hw)]
      by_cases hn : p.methods.length = 0
      · rw [if_pos hn]
        exact check_none hp h hw' hn
      · rw [if_neg hn]
        exact check_rest hp hs h hw' hn
end
end Go.Proofs.YtkphijabhoppnaaDoor
