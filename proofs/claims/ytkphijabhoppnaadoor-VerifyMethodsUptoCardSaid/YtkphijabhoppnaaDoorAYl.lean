/- What the reference asks of a program, walked (brazierref14.Check). -/
import Derived.Test.YtkphijabhoppnaaDoorAVs
import Derived.Deep.LoopGhost
import Derived.Deep.CutBlock
import Derived.Deep.DeepCutAuto
namespace Go.Proofs.YtkphijabhoppnaaDoor
open Go.RowKit Go.Proofs.YtkphijabhoppnaaDoorW.PrintWords
set_option linter.unusedSimpArgs false
set_option linter.unusedVariables false
theorem addr_add0 {a : Addr} (h : (a.add 0).spot = none) : a.add 0 = a := by
  obtain ⟨b, off, sp⟩ := a
  cases sp with
  | none => unfold Addr.add; split <;> simp_all
  | some s => simp [Addr.add] at h
theorem cell_spotV {w : World} {a : Addr} {v : Value} (h : w.cell? a = some v) : a.spot = none := by
  unfold World.cell? at h
  split at h
  · split at h
    · simp at h
    · rename_i hs; simpa using hs
  · simp at h
theorem ck_two {p : Pg} (h : 200 < p.pool.length ∨ 50 < p.classes.length ∨ 100 < p.methods.length ∨ wideS p = true) : checkS p = 2 := by unfold checkS; rw [if_pos h]
theorem ck_three {p : Pg} (h : ¬ (200 < p.pool.length ∨ 50 < p.classes.length ∨ 100 < p.methods.length ∨ wideS p = true)) (h3 : p.methods.length = 0) : checkS p = 3 := by unfold checkS; rw [if_neg h, if_pos h3]
theorem ck_first {p : Pg} (h : ¬ (200 < p.pool.length ∨ 50 < p.classes.length ∨ 100 < p.methods.length ∨ wideS p = true)) (h3 : p.methods.length ≠ 0) (h4 : firstS p.methods ≠ 0) : checkS p = firstS p.methods := by unfold checkS; rw [if_neg h, if_neg h3, if_pos h4]
theorem ck_odd {p : Pg} (h : ¬ (200 < p.pool.length ∨ 50 < p.classes.length ∨ 100 < p.methods.length ∨ wideS p = true)) (h3 : p.methods.length ≠ 0) (h4 : firstS p.methods = 0) (h5 : oddS p = true ∨ beginsP p = false) : checkS p = 1 := by
  unfold checkS; rw [if_neg h, if_neg h3, if_neg (by simpa using h4), if_pos h5]
theorem ck_ok {p : Pg} (h : ¬ (200 < p.pool.length ∨ 50 < p.classes.length ∨ 100 < p.methods.length ∨ wideS p = true)) (h3 : p.methods.length ≠ 0) (h4 : firstS p.methods = 0) (h5 : oddS p = false) (h6 : beginsP p = true) : checkS p = 0 := by
  unfold checkS; rw [if_neg h, if_neg h3, if_neg (by simpa using h4), if_neg (by simp [h5, h6])]
theorem cls_at (p : Pg) (j : Nat) (hj : j < p.classes.length) : PVerifyMethods.rd_L4 p.classes j = p.classes[j] := by
  simp [PVerifyMethods.rd_L4, List.getD_eq_getElem?_getD, hj]
theorem fld_at (r : List Fld) (j : Nat) (hj : j < r.length) : PVerifyMethods.rd_T179 r j = r[j] := by
  simp [PVerifyMethods.rd_T179, List.getD_eq_getElem?_getD, hj]
theorem wide_no {p : Pg} (h : ∀ i, i < p.classes.length → wideC (PVerifyMethods.rd_L4 p.classes i) = false) : wideS p = false := by
  unfold wideS
  rw [List.any_eq_false]
  intro c hc
  obtain ⟨i, hi, rfl⟩ := List.mem_iff_getElem.1 hc
  have := h i hi
  rw [cls_at p i hi] at this
  simp [this]
theorem wide_yes {p : Pg} {j : Nat} (hj : j < p.classes.length) (h : wideC (PVerifyMethods.rd_L4 p.classes j) = true) : wideS p = true := by
  unfold wideS
  rw [List.any_eq_true]
  exact ⟨_, List.getElem_mem hj, by rw [← cls_at p j hj]; exact h⟩
theorem first_at {p : Pg} {j : Nat} (hj : j < p.methods.length) (h : firstS (p.methods.take j) = 0) : firstS (p.methods.take (j + 1)) = sizesS p.methods[j] := by
  rw [List.take_add_one, List.getElem?_eq_getElem hj]
  exact first_snoc _ _ h
theorem odd_no {p : Pg} (h1 : ∀ i, i < p.classes.length → ∀ k, k < (PVerifyMethods.rd_L4 p.classes i).length → oddT (PVerifyMethods.rd_T179 (PVerifyMethods.rd_L4 p.classes i) k).f0 = false) (h2 : ∀ i, (hi : i < p.methods.length) → (p.methods[i].f0 ++ p.methods[i].f2).any oddT = false) : oddS p = false := by
  unfold oddS typesS
  rw [List.any_eq_false]
  intro t ht
  rcases List.mem_append.1 ht with ht | ht
  · obtain ⟨l, hl, htl⟩ := List.mem_flatten.1 ht
    obtain ⟨c, hc, rfl⟩ := List.mem_map.1 hl
    obtain ⟨f, hf, rfl⟩ := List.mem_map.1 htl
    obtain ⟨i, hi, rfl⟩ := List.mem_iff_getElem.1 hc
    obtain ⟨k, hk, rfl⟩ := List.mem_iff_getElem.1 hf
    have := h1 i hi k (by rw [cls_at p i hi]; exact hk)
    rw [cls_at p i hi, fld_at _ k hk] at this
    simp [this]
  · obtain ⟨l, hl, htl⟩ := List.mem_flatten.1 ht
    obtain ⟨m, hm, rfl⟩ := List.mem_map.1 hl
    obtain ⟨i, hi, rfl⟩ := List.mem_iff_getElem.1 hm
    have := List.any_eq_false.1 (h2 i hi) t htl
    simpa using this
theorem odd_cls {p : Pg} {i k : Nat} (hi : i < p.classes.length) (hk : k < (PVerifyMethods.rd_L4 p.classes i).length) (h : oddT (PVerifyMethods.rd_T179 (PVerifyMethods.rd_L4 p.classes i) k).f0 = true) : oddS p = true := by
  unfold oddS typesS
  rw [List.any_eq_true]
  rw [cls_at p i hi] at hk h
  rw [fld_at _ k hk] at h
  exact ⟨_, List.mem_append.2 (.inl (List.mem_flatten.2 ⟨_, List.mem_map.2 ⟨_, List.getElem_mem hi, rfl⟩, List.mem_map.2 ⟨_, List.getElem_mem hk, rfl⟩⟩)), h⟩
theorem odd_mth {p : Pg} {i : Nat} (hi : i < p.methods.length) (h : (p.methods[i].f0 ++ p.methods[i].f2).any oddT = true) : oddS p = true := by
  unfold oddS typesS
  rw [List.any_eq_true] at h ⊢
  obtain ⟨t, ht, ho⟩ := h
  exact ⟨t, List.mem_append.2 (.inr (List.mem_flatten.2 ⟨_, List.mem_map.2 ⟨_, List.getElem_mem hi, rfl⟩, ht⟩)), ho⟩
section
variable {w : World}
set_option maxRecDepth 100000 in
theorem rvalue_calls (t : Int) (w : World) : Calls Tryd.prog 104 #[.int .i64 t] w fun e w' => e = .returned (.bool (!oddT t)) ∧ Below w.heap.size w w' := by
  by_cases h1 : t = 1
  · subst h1
    go_enter Tryd.func104, Tryd.ntmps104
    go_wp2_with fail
    go_ret
    exact ⟨rfl, Below.refl _ _⟩
  · have t1 : (t == 1) = false := by simpa using h1
    have e : (!oddT t) = (t == 2) := by unfold oddT; simp [h1]; rfl
    obtain ⟨q, hq⟩ : ∃ q, (t == 2) = q := ⟨_, rfl⟩
    rw [e, hq]
    clear e h1
    go_enter Tryd.func104, Tryd.ntmps104
    go_wp2_with fail
    go_ret
    exact ⟨by first | rfl | (rw [← hq]; rfl), Below.refl _ _⟩
set_option maxRecDepth 100000 in
set_option maxHeartbeats 800000 in
theorem rvalues_calls {A : Option Addr} {c : Nat} {l : List Int} (hl : l.length ≤ 2000000) (hC : Kd.C (Kd.int .i64) w A l.length l) : Calls Tryd.prog 105 #[.slice A l.length c] w fun e w' => e = .returned (.bool (!l.any oddT)) ∧ Below w.heap.size w w' := by
  obtain ⟨r, hr⟩ : ∃ r, (!l.any oddT) = r := ⟨_, rfl⟩
  rw [hr]
  have HC := Lib.hid hC
  have HR := Lib.hid hr
  have HL := Lib.hid hl
  clear hC hr hl
  go_enter Tryd.func105, Tryd.ntmps105
  go_wp2_with fail
  go_loopg [3] l.length (fun g s3 wx => ∃ j : Nat, j + g = l.length ∧ s3 = .int .i64 j ∧ Hid ((∀ i, i < j → oddT (l.getD i 0) = false) ∧ Below w.heap.size w wx))
  case atStart => exact ⟨0, by omega, rfl, Lib.hid ⟨fun i hi => by omega, Below.refl _ _⟩⟩
  case round =>
    obtain ⟨j, hjg, rfl, HJ⟩ := hrel
    have hl := HL.out
    cases gk with
    | zero =>
      have ht : decide ((j : Int) < (l.length : Int)) = false := by simp; omega
      have hrr : r = true := by
        rw [← HR.out, Bool.not_eq_true', List.any_eq_false]
        intro t ht
        obtain ⟨i, hi, rfl⟩ := List.mem_iff_getElem.1 ht
        have := HJ.out.1 i (by omega)
        rw [List.getD_eq_getElem?_getD, List.getElem?_eq_getElem hi] at this
        simpa using this
      subst hrr
      clear hl
      go_wp2_with fail
      try rw [Exit.noGoto_ret]
      go_ret
      exact ⟨rfl, HJ.out.2⟩
    | succ g =>
      have ht : decide ((j : Int) < (l.length : Int)) = true := by simp; omega
      obtain ⟨ad, rfl, hc⟩ := Kd.at_int (Kd.C_below HC.out HJ.out.2) j (by omega) (by omega)
      rw [Int.toNat_natCast] at hc
      have j0 : (0 : Int) ≤ (j : Int) := by omega
      have j1 : (j : Int) < (l.length : Int) := by omega
      obtain ⟨x, hx⟩ : ∃ x, rd l j = x := ⟨_, rfl⟩
      have hx' : l.getD j 0 = x := by rw [← hx]; simp only [rd, Int.toNat_natCast]
      rw [hx] at hc
      have hwr : wrap64 ((j : Int) + 1) = ((j + 1 : Nat) : Int) := by unfold wrap64; omega
      have hv := fun V => rvalue_calls x V
      have HV := Lib.hid hv
      have HX := Lib.hid hx'
      clear hv hx hx' hl
      cases ho : oddT x with
      | true =>
        have hrr : r = false := by
          rw [← HR.out, Bool.not_eq_false', List.any_eq_true]
          exact ⟨l.getD j 0, getD_in (by omega), by rw [HX.out]; exact ho⟩
        rw [ho] at HV
        subst hrr
        clear ho
        go_wp2_with (first | (go_at_call 104; refine (HV.out _).mono ?_; rintro e w1 ⟨rfl, hb1⟩))
        try rw [Exit.noGoto_ret]
        go_ret
        exact ⟨rfl, HJ.out.2.trans (hb1.mono HJ.out.2.size)⟩
      | false =>
        rw [ho] at HV
        have HO := Lib.hid ho
        clear ho
        go_wp2_with (first | (go_at_call 104; refine (HV.out _).mono ?_; rintro e w1 ⟨rfl, hb1⟩))
        go_roundg g
        case measure => omega
        case rel =>
          refine ⟨j + 1, by omega, by first | rfl | simp [hwr], Lib.hid ⟨fun i hi => ?_, HJ.out.2.trans (hb1.mono HJ.out.2.size)⟩⟩
          by_cases hij : i = j
          · subst hij; rw [HX.out]; exact HO.out
          · exact HJ.out.1 i (by omega)
set_option maxRecDepth 100000 in
set_option maxHeartbeats 1600000 in
theorem rmethod_calls {B0 B2 B4 : Option Addr} {d0 d2 d4 : Nat} (m : Meth) (h0 : m.f0.length ≤ 2000000) (h2 : m.f2.length ≤ 2000000) (w : World) :
    Calls Tryd.prog 103 #[.agg #[.slice B0 m.f0.length d0, .int .i64 m.f1, .slice B2 m.f2.length d2, .int .i64 m.f3, .slice B4 m.f4.length d4]] w (ChkPost w (sizesS m)) := by
  obtain ⟨K, hK⟩ : ∃ K : Nat, m.f0.length + m.f2.length = K := ⟨_, rfl⟩
  have e1 : wrap64 ((m.f0.length : Int) + (m.f2.length : Int)) = (K : Int) := by unfold wrap64; omega
  obtain ⟨r, hr⟩ : ∃ r, sizesS m = r := ⟨_, rfl⟩
  rw [hr]
  unfold sizesS at hr
  rw [hK] at hr
  have hA : Below w.heap.size w (w.alloc (obM B0 d0 B2 d2 B4 d4 m)) := (Below.refl _ w).alloc (Nat.le_refl _) _
  clear h0 h2
  by_cases h1 : 40 < K
  · have t1 : decide (40 < (K : Int)) = true := decide_eq_true (by omega)
    rw [if_pos (.inl h1)] at hr
    subst hr
    clear h1 hK
    go_enter Tryd.func103, Tryd.ntmps103
    go_wp2_with fail
    go_ret
    exact ⟨rfl, hA⟩
  · have t1 : decide (40 < (K : Int)) = false := decide_eq_false (by omega)
    by_cases h2 : 40 < m.f3
    · have t2 : decide (40 < m.f3) = true := decide_eq_true h2
      rw [if_pos (.inr (.inl h2))] at hr
      subst hr
      clear h1 h2 hK
      go_enter Tryd.func103, Tryd.ntmps103
      go_wp2_with fail
      go_ret
      exact ⟨rfl, hA⟩
    · have t2 : decide (40 < m.f3) = false := decide_eq_false h2
      by_cases h3 : 4096 < m.f4.length
      · have t3 : decide (4096 < (m.f4.length : Int)) = true := decide_eq_true (by omega)
        rw [if_pos (.inr (.inr h3))] at hr
        subst hr
        clear h1 h2 h3 hK
        go_enter Tryd.func103, Tryd.ntmps103
        go_wp2_with fail
        go_ret
        exact ⟨rfl, hA⟩
      · have t3 : decide (4096 < (m.f4.length : Int)) = false := decide_eq_false (by omega)
        rw [if_neg (by omega)] at hr
        by_cases h4 : m.f3 < 0
        · have t4 : decide (m.f3 < 0) = true := decide_eq_true h4
          rw [if_pos (.inl h4)] at hr
          subst hr
          clear h1 h2 h3 h4 hK
          go_enter Tryd.func103, Tryd.ntmps103
          go_wp2_with fail
          go_ret
          exact ⟨rfl, hA⟩
        · have t4 : decide (m.f3 < 0) = false := decide_eq_false h4
          by_cases h5 : m.f1 < 0
          · have t5 : decide (m.f1 < 0) = true := decide_eq_true h5
            rw [if_pos (.inr (.inl h5))] at hr
            subst hr
            clear h1 h2 h3 h4 h5 hK
            go_enter Tryd.func103, Tryd.ntmps103
            go_wp2_with fail
            go_ret
            exact ⟨rfl, hA⟩
          · have t5 : decide (m.f1 < 0) = false := decide_eq_false h5
            by_cases h6 : 2 < m.f1
            · have t6 : decide (2 < m.f1) = true := decide_eq_true h6
              rw [if_pos (.inr (.inr h6))] at hr
              subst hr
              clear h1 h2 h3 h4 h5 h6 hK
              go_enter Tryd.func103, Tryd.ntmps103
              go_wp2_with fail
              go_ret
              exact ⟨rfl, hA⟩
            · have t6 : decide (2 < m.f1) = false := decide_eq_false h6
              rw [if_neg (by omega)] at hr
              by_cases h7 : m.f4.length = 0
              · have t7 : ((m.f4.length : Int) == 0) = true := by simp [h7]
                rw [if_pos h7] at hr
                subst hr
                clear h1 h2 h3 h4 h5 h6 h7 hK
                go_enter Tryd.func103, Tryd.ntmps103
                go_wp2_with fail
                go_ret
                exact ⟨rfl, hA⟩
              · have t7 : ((m.f4.length : Int) == 0) = false := by rw [beq_eq_false_iff_ne]; omega
                rw [if_neg h7] at hr
                subst hr
                clear h1 h2 h3 h4 h5 h6 h7 hK
                go_enter Tryd.func103, Tryd.ntmps103
                go_wp2_with fail
                go_ret
                exact ⟨rfl, hA⟩
end
end Go.Proofs.YtkphijabhoppnaaDoor
namespace Go.Proofs.YtkphijabhoppnaaDoor
open Go.RowKit Go.Proofs.YtkphijabhoppnaaDoorW.PrintWords
set_option linter.unusedSimpArgs false
set_option linter.unusedVariables false
section
variable {w : World} {A0 A1 A2 : Option Addr} {c0 c1 c2 : Nat} {p : Pg}
set_option maxRecDepth 100000 in
set_option maxHeartbeats 2000000 in
theorem rcheck_calls (hp : PgC w A0 c0 A1 c1 A2 c2 p) (hs : SmallP p) :
    Calls Tryd.prog 58 #[.agg #[.slice A0 p.pool.length c0, .slice A1 p.classes.length c1, .slice A2 p.methods.length c2]] w (ChkPost w (checkS p)) := by
  have hA : Below w.heap.size w (w.alloc (obP A0 c0 A1 c1 A2 c2 p)) := (Below.refl _ w).alloc (Nat.le_refl _) _
  have hR := heap_alloc_new w (obP A0 c0 A1 c1 A2 c2 p)
  obtain ⟨r, hr⟩ : ∃ r, checkS p = r := ⟨_, rfl⟩
  rw [hr]
  by_cases h1 : 200 < p.pool.length
  · have t1 : decide (200 < (p.pool.length : Int)) = true := decide_eq_true (by omega)
    have e := (ck_two (.inl h1)).symm.trans hr
    subst e
    clear hr h1 hR
    go_enter Tryd.func58, Tryd.ntmps58
    go_wp2_with fail
    go_ret
    exact ⟨rfl, hA⟩
  have t1 : decide (200 < (p.pool.length : Int)) = false := decide_eq_false (by omega)
  by_cases h2 : 50 < p.classes.length
  · have t2 : decide (50 < (p.classes.length : Int)) = true := decide_eq_true (by omega)
    have e := (ck_two (.inr (.inl h2))).symm.trans hr
    subst e
    clear hr h1 h2 hR
    go_enter Tryd.func58, Tryd.ntmps58
    go_wp2_with fail
    go_ret
    exact ⟨rfl, hA⟩
  have t2 : decide (50 < (p.classes.length : Int)) = false := decide_eq_false (by omega)
  have HP := Lib.hid hp
  have HS := Lib.hid hs
  have HA := Lib.hid hA
  have HR := Lib.hid hR
  have HRR := Lib.hid hr
  have H12 := Lib.hid (And.intro h1 h2)
  clear hp hs hA hR hr h1 h2
  go_enter Tryd.func58, Tryd.ntmps58
  go_upto_block 0 with fail
  clear t1 t2
  obtain ⟨V, hV⟩ : ∃ V, w.alloc (obP A0 c0 A1 c1 A2 c2 p) = V := ⟨_, rfl⟩
  rw [hV] at HA HR
  simp only [hV]
  clear hV
  go_cut [3] (fun s Y => Hid (wideS p = false) ∧ Y = V)
  case first =>
    go_wp2_with fail
    go_loopg [3] p.classes.length (fun g s3 wx => ∃ j : Nat, j + g = p.classes.length ∧ s3 = .int .i64 j ∧ Hid (∀ i, i < j → wideC (PVerifyMethods.rd_L4 p.classes i) = false) ∧ wx = V)
    case atStart => exact ⟨0, by omega, rfl, Lib.hid (fun i hi => by omega), rfl⟩
    case round =>
      obtain ⟨j, hjg, rfl, HJ, rfl⟩ := hrel
      cases gk with
      | succ g =>
        have hj : j < p.classes.length := by omega
        have ht : decide ((j : Int) < (p.classes.length : Int)) = true := decide_eq_true (by omega)
        have j0 : (0 : Int) ≤ (j : Int) := by omega
        have j1 : (j : Int) < (p.classes.length : Int) := by omega
        have hcl : p.classes.length ≤ 50 := by have h12 := H12.out; omega
        obtain ⟨y0, y1, y2⟩ := cells3V HR.out
        obtain ⟨ad, D0, d0, rfl, hcell, hle, hC⟩ := PVerifyMethods.at_L4 (Kd.C_below HP.out.r1 HA.out) j j0 j1
        rw [Int.toNat_natCast] at hcell
        have hwd := wideC_int (PVerifyMethods.rd_L4 p.classes j)
        obtain ⟨q, hq⟩ : ∃ q, wideC (PVerifyMethods.rd_L4 p.classes j) = q := ⟨_, rfl⟩
        obtain ⟨N, hN⟩ : ∃ N, (PVerifyMethods.rd_L4 p.classes j).length = N := ⟨_, rfl⟩
        rw [hq, hN] at hwd
        rw [hN] at hcell
        cases q with
        | true =>
          have e := (ck_two (.inr (.inr (.inr (wide_yes hj hq))))).symm.trans HRR.out
          subst e
          clear hq hN hle hC
          go_wp2_with fail
          try rw [Exit.noGoto_ret]
          go_ret
          exact ⟨rfl, HA.out⟩
        | false =>
          have HQ := Lib.hid hq
          clear hq hN hle hC
          go_wp2_with fail
          go_roundg g
          case measure => omega
          case rel =>
            refine ⟨j + 1, by omega, by first | rfl | simp, Lib.hid fun i hi => ?_, rfl⟩
            by_cases hij : i = j
            · subst hij; exact HQ.out
            · exact HJ.out i (by omega)
      | zero =>
        have ht : decide ((j : Int) < (p.classes.length : Int)) = false := decide_eq_false (by omega)
        have htn : decide (j < p.classes.length) = false := decide_eq_false (by omega)
        have hw : wideS p = false := wide_no fun i hi => HJ.out i (by omega)
        have HW := Lib.hid hw
        clear hw
        obtain ⟨y0, y1, y2⟩ := cells3V HR.out
        go_wp2_with fail
        go_meet
        case rel => exact ⟨HW, rfl⟩
  case rest =>
    obtain ⟨HW, rfl⟩ := hcut
    have hw := HW.out
    obtain ⟨y0, y1, y2⟩ := cells3V HR.out
    by_cases h3 : 100 < p.methods.length
    · have t3 : decide (100 < (p.methods.length : Int)) = true := decide_eq_true (by omega)
      have e := (ck_two (.inr (.inr (.inl h3)))).symm.trans HRR.out
      subst e
      clear hw h3
      go_wp2_with fail
      try rw [Exit.noGoto_ret]
      go_ret
      exact ⟨rfl, HA.out⟩
    have t3 : decide (100 < (p.methods.length : Int)) = false := decide_eq_false (by omega)
    have hno : ¬ (200 < p.pool.length ∨ 50 < p.classes.length ∨ 100 < p.methods.length ∨ wideS p = true) := by
      have h12 := H12.out
      rw [hw]; simp; omega
    by_cases h4 : p.methods.length = 0
    · have t4 : ((p.methods.length : Int) == 0) = true := by simp [h4]
      have e := (ck_three hno h4).symm.trans HRR.out
      subst e
      clear hw h3 h4 hno
      go_wp2_with fail
      try rw [Exit.noGoto_ret]
      go_ret
      exact ⟨rfl, HA.out⟩
    have t4 : ((p.methods.length : Int) == 0) = false := by rw [beq_eq_false_iff_ne]; omega
    have HNO := Lib.hid hno
    have HN4 := Lib.hid h4
    have HN3 := Lib.hid h3
    clear hw h3 h4 hno H12 HW
    go_upto_block 2 with fail
    clear t3 t4 y0 y1 y2
    go_cut [4] (fun s Y => Hid (firstS p.methods = 0 ∧ Below w.heap.size w Y ∧ Y.heap[w.heap.size]? = some (obP A0 c0 A1 c1 A2 c2 p)))
    case first =>
      go_wp2_with fail
      go_loopg [4] p.methods.length (fun g s4 wx => ∃ j : Nat, j + g = p.methods.length ∧ s4 = .int .i64 j ∧ Hid (firstS (p.methods.take j) = 0 ∧ Below w.heap.size w wx ∧ wx.heap[w.heap.size]? = some (obP A0 c0 A1 c1 A2 c2 p)))
      case atStart => exact ⟨0, by omega, rfl, Lib.hid ⟨rfl, HA.out, HR.out⟩⟩
      case round =>
        obtain ⟨j2, hjg2, rfl, HJ⟩ := hrel
        obtain ⟨y0, y1, y2⟩ := cells3V HJ.out.2.2
        have hnl : p.methods.length ≤ 100 := by have := HN3.out; omega
        cases gk with
        | succ g =>
          have hj : j2 < p.methods.length := by omega
          have ht : decide ((j2 : Int) < (p.methods.length : Int)) = true := decide_eq_true (by omega)
          have j0 : (0 : Int) ≤ (j2 : Int) := by omega
          have j1 : (j2 : Int) < (p.methods.length : Int) := by omega
          obtain ⟨ad, B0, d0, B2, d2, B4, d4, rfl, m0, m1, m2, m3, m4, -⟩ := PVerifyMethods.at_T64 HP.out.r2 j2 j0 j1
          rw [Int.toNat_natCast] at m0 m1 m2 m3 m4
          rw [meth_at p j2 hj] at m0 m1 m2 m3 m4
          have m0 := cell_be HJ.out.2.1 m0
          have m1 := cell_be HJ.out.2.1 m1
          have m2 := cell_be HJ.out.2.1 m2
          have m3 := cell_be HJ.out.2.1 m3
          have m4 := cell_be HJ.out.2.1 m4
          have hsm := HS.out.2.2.2.1 _ (List.getElem_mem hj)
          have hm := fun V => rmethod_calls (B0 := B0) (B2 := B2) (B4 := B4) (d0 := d0) (d2 := d2) (d4 := d4) p.methods[j2] hsm.1 hsm.2.1 V
          have hf := first_at hj HJ.out.1
          obtain ⟨m, hmm⟩ : ∃ m, p.methods[j2] = m := ⟨_, rfl⟩
          rw [hmm] at m0 m1 m2 m3 m4 hm hf
          obtain ⟨z, hz⟩ : ∃ z, sizesS m = z := ⟨_, rfl⟩
          rw [hz] at hm hf
          have HM := Lib.hid hm
          have HF := Lib.hid hf
          clear hm hf hz hmm hsm
          by_cases h0 : z = 0
          · subst h0
            go_wp2_with (first | (go_at_call 103; refine (HM.out _).mono ?_; rintro e w1 ⟨rfl, hb1⟩))
            go_roundg g
            case measure => omega
            case rel => exact ⟨j2 + 1, by omega, by first | rfl | simp, Lib.hid ⟨HF.out, HJ.out.2.1.trans (hb1.mono HJ.out.2.1.size), row_kept hb1 HJ.out.2.2⟩⟩
          · have t5 : (z != 0) = true := by simpa using h0
            have e : z = r := by
              have h5 : firstS p.methods = z := (first_prefix (List.take_prefix (j2 + 1) p.methods) (by rw [HF.out]; exact h0)).trans HF.out
              rw [← HRR.out, ck_first HNO.out HN4.out (by rw [h5]; exact h0), h5]
            subst e
            clear h0
            go_wp2_with (first | (go_at_call 103; refine (HM.out _).mono ?_; rintro e w1 ⟨rfl, hb1⟩))
            try rw [Exit.noGoto_ret]
            go_ret
            exact ⟨rfl, HJ.out.2.1.trans (hb1.mono HJ.out.2.1.size)⟩
        | zero =>
          have ht : decide ((j2 : Int) < (p.methods.length : Int)) = false := decide_eq_false (by omega)
          have htn : decide (j2 < p.methods.length) = false := decide_eq_false (by omega)
          have hf : firstS p.methods = 0 := by
            have := HJ.out.1
            rwa [List.take_of_length_le (by omega)] at this
          have HF := Lib.hid hf
          clear hf hnl
          go_wp2_with fail
          go_meet
          case rel => exact Lib.hid ⟨HF.out, HJ.out.2⟩
    case rest =>
      have HF := Lib.hid hcut.out.1
      have HC2 := Lib.hid hcut.out.2
      clear hcut
      obtain ⟨y0, y1, y2⟩ := cells3V HC2.out.2
      go_upto_block 4 with fail
      go_cut [6] (fun s Y => Hid ((∀ i, i < p.classes.length → ∀ k, k < (PVerifyMethods.rd_L4 p.classes i).length → oddT (PVerifyMethods.rd_T179 (PVerifyMethods.rd_L4 p.classes i) k).f0 = false) ∧ Below w.heap.size w Y ∧ Y.heap[w.heap.size]? = some (obP A0 c0 A1 c1 A2 c2 p)))
      case first =>
        go_wp2_with fail
        clear y0 y1 y2
        go_loopg [6] p.classes.length (fun g s6 wx => ∃ j : Nat, j + g = p.classes.length ∧ s6 = .int .i64 j ∧ Hid ((∀ i, i < j → ∀ k, k < (PVerifyMethods.rd_L4 p.classes i).length → oddT (PVerifyMethods.rd_T179 (PVerifyMethods.rd_L4 p.classes i) k).f0 = false) ∧ Below w.heap.size w wx ∧ wx.heap[w.heap.size]? = some (obP A0 c0 A1 c1 A2 c2 p)))
        case atStart => exact ⟨0, by omega, rfl, Lib.hid ⟨fun i hi => by omega, HC2.out⟩⟩
        case round =>
          obtain ⟨j3, hjg3, rfl, HJ3⟩ := hrel
          obtain ⟨y0, y1, y2⟩ := cells3V HJ3.out.2.2
          cases gk with
          | succ g =>
            have hj : j3 < p.classes.length := by omega
            have ht : decide ((j3 : Int) < (p.classes.length : Int)) = true := decide_eq_true (by omega)
            have hcl := HS.out.2.1
            have j0 : (0 : Int) ≤ (j3 : Int) := by omega
            have j1 : (j3 : Int) < (p.classes.length : Int) := by omega
            obtain ⟨ad, D0, d0, rfl, hcell, hle, hC⟩ := PVerifyMethods.at_L4 HP.out.r1 j3 j0 j1
            rw [Int.toNat_natCast] at hcell
            have hrow : (PVerifyMethods.rd_L4 p.classes j3).length ≤ 2000000 := by rw [cls_at p j3 hj]; exact HS.out.2.2.2.2 _ (List.getElem_mem hj)
            obtain ⟨row, hrw⟩ : ∃ row, PVerifyMethods.rd_L4 p.classes j3 = row := ⟨_, rfl⟩
            rw [hrw] at hcell hC hrow
            have HC := Lib.hid hC
            have HCL := Lib.hid hcell
            have HRW := Lib.hid hrw
            have HRL := Lib.hid hrow
            clear hC hcell hrw hle hrow
            go_wp2_with fail
            clear ht y0 y1 y2
            go_loopg [7] row.length (fun g2 s7 wy => ∃ k : Nat, k + g2 = row.length ∧ s7 = .int .i64 k ∧ Hid ((∀ i, i < k → oddT (PVerifyMethods.rd_T179 row i).f0 = false) ∧ Below w.heap.size w wy ∧ wy.heap[w.heap.size]? = some (obP A0 c0 (some ad) c1 A2 c2 p)))
            case atStart => exact ⟨0, by omega, rfl, Lib.hid ⟨fun i hi => by omega, HJ3.out.2⟩⟩
            case round =>
              obtain ⟨k, hkg, rfl, HK⟩ := hrel
              obtain ⟨y0, y1, y2⟩ := cells3V HK.out.2.2
              have hcell := cell_be HK.out.2.1 HCL.out
              cases gk with
              | zero =>
                have ht : decide ((k : Int) < (row.length : Int)) = false := decide_eq_false (by omega)
                have htn : decide (k < row.length) = false := decide_eq_false (by omega)
                go_wp2_with fail
                go_roundg g
                case measure => omega
                case rel =>
                  refine ⟨j3 + 1, by omega, by first | rfl | simp, Lib.hid ⟨fun i hi => ?_, HK.out.2⟩⟩
                  by_cases hij : i = j3
                  · subst hij
                    rw [HRW.out]
                    exact fun k2 hk2 => HK.out.1 k2 (by omega)
                  · exact HJ3.out.1 i (by omega)
              | succ g2 =>
                have hk : k < row.length := by omega
                have ht : decide ((k : Int) < (row.length : Int)) = true := decide_eq_true (by omega)
                have hrl := HRL.out
                have k0 : (0 : Int) ≤ (k : Int) := by omega
                have k1 : (k : Int) < (row.length : Int) := by omega
                obtain ⟨fd, rfl, f0, -⟩ := PVerifyMethods.at_T179 (Kd.C_below HC.out HK.out.2.1) k k0 k1
                rw [Int.toNat_natCast] at f0
                obtain ⟨x, hx⟩ : ∃ x, (PVerifyMethods.rd_T179 row k).f0 = x := ⟨_, rfl⟩
                rw [hx] at f0
                have hv := fun V => rvalue_calls x V
                have HV := Lib.hid hv
                have HX := Lib.hid hx
                clear hv hx
                cases ho : oddT x with
                | true =>
                  have e := (ck_odd HNO.out HN4.out HF.out (.inl (odd_cls (k := k) hj (by rw [HRW.out]; exact hk) (by rw [HRW.out, HX.out]; exact ho)))).symm.trans HRR.out
                  rw [ho] at HV
                  subst e
                  clear ho
                  go_wp2_with (first | (go_at_call 104; refine (HV.out _).mono ?_; rintro e w1 ⟨rfl, hb1⟩))
                  try rw [Exit.noGoto_ret]
                  go_ret
                  exact ⟨rfl, HK.out.2.1.trans (hb1.mono HK.out.2.1.size)⟩
                | false =>
                  have HO := Lib.hid ho
                  rw [ho] at HV
                  clear ho
                  go_wp2_with (first | (go_at_call 104; refine (HV.out _).mono ?_; rintro e w1 ⟨rfl, hb1⟩))
                  go_roundg g2
                  case measure => omega
                  case rel =>
                    refine ⟨k + 1, by omega, by first | rfl | simp, Lib.hid ⟨fun i hi => ?_, HK.out.2.1.trans (hb1.mono HK.out.2.1.size), row_kept hb1 HK.out.2.2⟩⟩
                    by_cases hij : i = k
                    · subst hij; rw [HX.out]; exact HO.out
                    · exact HK.out.1 i (by omega)
          | zero =>
            have ht : decide ((j3 : Int) < (p.classes.length : Int)) = false := decide_eq_false (by omega)
            have htn : decide (j3 < p.classes.length) = false := decide_eq_false (by omega)
            go_wp2_with fail
            go_meet
            case rel => exact Lib.hid ⟨fun i hi => HJ3.out.1 i (by omega), HJ3.out.2⟩
      case rest =>
        have H3 := Lib.hid hcut.out.1
        have HC3 := Lib.hid hcut.out.2
        clear hcut HC2 y0 y1 y2
        obtain ⟨y0, y1, y2⟩ := cells3V HC3.out.2
        go_upto_block 8 with fail
        go_cut [8] (fun s Y => Hid (oddS p = false ∧ Below w.heap.size w Y ∧ Y.heap[w.heap.size]? = some (obP A0 c0 A1 c1 A2 c2 p)))
        case first =>
          go_wp2_with fail
          clear y0 y1 y2
          go_loopg [8] p.methods.length (fun g s8 wx => ∃ j : Nat, j + g = p.methods.length ∧ s8 = .int .i64 j ∧ Hid ((∀ i, (hi : i < p.methods.length) → i < j → (p.methods[i].f0 ++ p.methods[i].f2).any oddT = false) ∧ Below w.heap.size w wx ∧ wx.heap[w.heap.size]? = some (obP A0 c0 A1 c1 A2 c2 p)))
          case atStart => exact ⟨0, by omega, rfl, Lib.hid ⟨fun i _ hi => by omega, HC3.out⟩⟩
          case round =>
            obtain ⟨j4, hjg4, rfl, HJ4⟩ := hrel
            obtain ⟨y0, y1, y2⟩ := cells3V HJ4.out.2.2
            cases gk with
            | succ g =>
              have hj : j4 < p.methods.length := by omega
              have ht : decide ((j4 : Int) < (p.methods.length : Int)) = true := decide_eq_true (by omega)
              have hnl : p.methods.length ≤ 100 := by have := HN3.out; omega
              have j0 : (0 : Int) ≤ (j4 : Int) := by omega
              have j1 : (j4 : Int) < (p.methods.length : Int) := by omega
              obtain ⟨ad, B0, d0, B2, d2, B4, d4, rfl, m0, m1, m2, m3, m4, l0, g0, l2, g2, -⟩ := PVerifyMethods.at_T64 HP.out.r2 j4 j0 j1
              rw [Int.toNat_natCast] at m0 m1 m2 m3 m4
              rw [meth_at p j4 hj] at m0 m1 m2 m3 m4 g0 g2
              have m0 := cell_be HJ4.out.2.1 m0
              have m2 := cell_be HJ4.out.2.1 m2
              have hsm := HS.out.2.2.2.1 _ (List.getElem_mem hj)
              have hv0 : ∀ V, Below w.heap.size w V → _ := fun V hb => rvalues_calls (c := d0) hsm.1 (Kd.C_below g0 hb)
              have hv2 : ∀ V, Below w.heap.size w V → _ := fun V hb => rvalues_calls (c := d2) hsm.2.1 (Kd.C_below g2 hb)
              have ha : ∀ b, (p.methods[j4].f0 ++ p.methods[j4].f2).any oddT = b → (p.methods[j4].f0.any oddT || p.methods[j4].f2.any oddT) = b := fun b h => by rw [← h, List.any_append]
              obtain ⟨b0, hb0⟩ : ∃ b, p.methods[j4].f0.any oddT = b := ⟨_, rfl⟩
              obtain ⟨b2, hb2⟩ : ∃ b, p.methods[j4].f2.any oddT = b := ⟨_, rfl⟩
              have hall : (p.methods[j4].f0 ++ p.methods[j4].f2).any oddT = (b0 || b2) := by rw [List.any_append, hb0, hb2]
              rw [hb0] at hv0
              rw [hb2] at hv2
              have HV0 := Lib.hid hv0
              have HV2 := Lib.hid hv2
              have HALL := Lib.hid hall
              have HB4 := Lib.hid HJ4.out.2.1
              have HR4 := Lib.hid HJ4.out.2.2
              clear hv0 hv2 hall hb0 hb2 ha hsm m1 m3 m4 l0 l2 g0 g2
              cases b0 with
              | true =>
                have e := (ck_odd HNO.out HN4.out HF.out (.inl (odd_mth hj HALL.out))).symm.trans HRR.out
                subst e
                go_wp2_with (first | (go_at_call 105; with_reducible refine (HV0.out _ HB4.out).mono ?_; rintro e w1 ⟨rfl, hb1⟩))
                try rw [Exit.noGoto_ret]
                go_ret
                exact ⟨rfl, HB4.out.trans (hb1.mono HB4.out.size)⟩
              | false =>
                cases b2 with
                | true =>
                  have e := (ck_odd HNO.out HN4.out HF.out (.inl (odd_mth hj HALL.out))).symm.trans HRR.out
                  subst e
                  go_wp2_with (first | (go_at_call 105; with_reducible refine (HV0.out _ HB4.out).mono ?_; rintro e w1 ⟨rfl, hb1⟩; have B1 := Lib.hid (HB4.out.trans (hb1.mono HB4.out.size)); obtain ⟨z0, z1, z2⟩ := cells3V (row_kept hb1 HR4.out); have q2 := cell_be hb1 m2; clear hb1) | (go_at_call 105; with_reducible refine (HV2.out _ B1.out).mono ?_; rintro e w2 ⟨rfl, hb2⟩))
                  try rw [Exit.noGoto_ret]
                  go_ret
                  exact ⟨rfl, B1.out.trans (hb2.mono B1.out.size)⟩
                | false =>
                  go_wp2_with (first | (go_at_call 105; with_reducible refine (HV0.out _ HB4.out).mono ?_; rintro e w1 ⟨rfl, hb1⟩; have B1 := Lib.hid (HB4.out.trans (hb1.mono HB4.out.size)); obtain ⟨z0, z1, z2⟩ := cells3V (row_kept hb1 HR4.out); have R1 := Lib.hid (row_kept hb1 HR4.out); have q2 := cell_be hb1 m2; clear hb1) | (go_at_call 105; with_reducible refine (HV2.out _ B1.out).mono ?_; rintro e w2 ⟨rfl, hb2⟩))
                  go_roundg g
                  case measure => omega
                  case rel =>
                    refine ⟨j4 + 1, by omega, by first | rfl | simp, Lib.hid ⟨fun i hi hi4 => ?_, B1.out.trans (hb2.mono B1.out.size), row_kept hb2 R1.out⟩⟩
                    by_cases hij : i = j4
                    · subst hij; exact HALL.out
                    · exact HJ4.out.1 i hi (by omega)
            | zero =>
              have ht : decide ((j4 : Int) < (p.methods.length : Int)) = false := decide_eq_false (by omega)
              have htn : decide (j4 < p.methods.length) = false := decide_eq_false (by omega)
              have hodd : oddS p = false := odd_no H3.out fun i hi => HJ4.out.1 i hi (by omega)
              have HO := Lib.hid hodd
              clear hodd
              go_wp2_with fail
              go_meet
              case rel => exact Lib.hid ⟨HO.out, HJ4.out.2⟩
        case rest =>
          have hodd := hcut.out.1
          have HC4 := Lib.hid hcut.out.2
          clear hcut HC3 y0 y1 y2
          obtain ⟨y0, y1, y2⟩ := cells3V HC4.out.2
          have hpos : 0 < p.methods.length := by have := HN4.out; omega
          have j0 : (0 : Int) < (p.methods.length : Int) := by omega
          obtain ⟨ad, B0, d0, B2, d2, B4, d4, rfl, m0, m1, m2, m3, m4, -⟩ := PVerifyMethods.at_T64 HP.out.r2 0 (by omega) j0
          have m0 := cell_be HC4.out.1 m0
          have m1 := cell_be HC4.out.1 m1
          rw [show (0 : Int).toNat * 5 = 0 from rfl] at m0 m1
          have hsp : ad.add 0 = ad := addr_add0 (cell_spotV m0)
          have n0 := m0
          have n1 := m1
          rw [hsp] at n0 n1
          have hbg : beginsP p = decide ((PVerifyMethods.rd_T64 p.methods 0).f0.length = 0 ∧ (PVerifyMethods.rd_T64 p.methods 0).f1 = 0) := rfl
          obtain ⟨m, hm⟩ : ∃ m, PVerifyMethods.rd_T64 p.methods 0 = m := ⟨_, rfl⟩
          rw [hm] at hbg m0 m1 n0 n1
          have HB4 := Lib.hid HC4.out.1
          obtain ⟨N, hN⟩ : ∃ N, m.f0.length = N := ⟨_, rfl⟩
          rw [hN] at hbg m0 n0
          clear hN
          by_cases h5 : 0 < N
          · have t5 : decide (0 < (N : Int)) = true := decide_eq_true (by omega)
            have t5n : decide (0 < N) = true := decide_eq_true h5
            have e := (ck_odd HNO.out HN4.out HF.out (.inr (hbg.trans (decide_eq_false fun h => by omega)))).symm.trans HRR.out
            subst e
            clear hodd hpos hbg hm hsp
            go_wp2_with fail
            try rw [Exit.noGoto_ret]
            go_ret
            exact ⟨rfl, HB4.out⟩
          · have t5 : decide (0 < (N : Int)) = false := decide_eq_false (by omega)
            have t5n : decide (0 < N) = false := decide_eq_false h5
            by_cases h6 : m.f1 = 0
            · have t6 : (m.f1 != 0) = false := by simpa using h6
              have e := (ck_ok HNO.out HN4.out HF.out hodd (hbg.trans (decide_eq_true ⟨by omega, h6⟩))).symm.trans HRR.out
              subst e
              clear hodd hpos hbg hm h6 hsp
              go_wp2_with fail
              try rw [Exit.noGoto_ret]
              go_ret
              exact ⟨rfl, HB4.out⟩
            · have t6 : (m.f1 != 0) = true := by simpa using h6
              have e := (ck_odd HNO.out HN4.out HF.out (.inr (hbg.trans (decide_eq_false fun h => h6 h.2)))).symm.trans HRR.out
              subst e
              clear hodd hpos hbg hm h6 hsp
              go_wp2_with fail
              try rw [Exit.noGoto_ret]
              go_ret
              exact ⟨rfl, HB4.out⟩
end
end Go.Proofs.YtkphijabhoppnaaDoor
