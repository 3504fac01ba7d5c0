/- Part of the proof. -/
import Derived.Test.YtkphijabhoppnaaGreatDoorAPTextProgramsx0
-- PRINTED BY print.sh 35421559b90ae4d0a3588c463048766b98c2df88dd9212a6774a882060cdf62d: not written by this session
namespace Go.Proofs.YtkphijabhoppnaaGreatDoor.PTextPrograms
open Go.RowKit Go.Proofs.YtkphijabhoppnaaGreatDoorW.PrintWords Go.Proofs.YtkphijabhoppnaaGreatDoorW.PrintLast Go.Proofs.YtkphijabhoppnaaGreatDoorW.PrintMore
attribute [local go_sem] max2_int min2_int max_two min_two max_three min_three max_four min_four   -- for this text's walks alone
set_option linter.unusedVariables false
set_option linter.unusedSimpArgs false
mutual
def brazierref5_Lines.l0 : Nat → ByteArray → List (S30) → Int → Int → Int → Option ((List (S30)))
 | 0, _, _, _, _, _ => none
 | k + 1, x0, x3, x4, x5, x6 => if x6 ≤ (x0.size : Int) then (if x6 < (x0.size : Int) then (if 0 ≤ x6 then (brazierref5_Lines.j1 k x0 x3 x4 x5 x6 ((bt x0 x6) != 10)) else (none)) else (brazierref5_Lines.j1 k x0 x3 x4 x5 x6 false)) else (some x3)
def brazierref5_Lines.j1 : Nat → ByteArray → List (S30) → Int → Int → Int → Bool → Option ((List (S30)))
 | 0, _, _, _, _, _, _ => none
 | k + 1, x0, x3, x4, x5, x6, x24 => if x24 = true then (brazierref5_Lines.l0 k x0 x3 x4 x5 (wrap64 (x6 + 1))) else (if 0 ≤ x4 then (if x4 ≤ x6 then (if x6 ≤ (x0.size : Int) then (brazierref5_Lines.l1 k x0 x3 (wrap64 (x6 + 1)) (wrap64 (x5 + 1)) x6 (x0.extract (x4 : Int).toNat (x6 : Int).toNat) 0) else (none)) else (none)) else (none))
def brazierref5_Lines.l1 : Nat → ByteArray → List (S30) → Int → Int → Int → ByteArray → Int → Option ((List (S30)))
 | 0, _, _, _, _, _, _, _ => none
 | k + 1, x0, x3, x4, x5, x6, x7, x8 => if x8 < (x7.size : Int) then (if 0 ≤ x8 then (if (bt x7 x8) = 59 then (if x8 ≤ (x7.size : Int) then (brazierref5_Lines.l1 k x0 x3 x4 x5 x6 (x7.extract 0 (x8 : Int).toNat) (wrap64 (x8 + 1))) else (none)) else (brazierref5_Lines.l1 k x0 x3 x4 x5 x6 x7 (wrap64 (x8 + 1)))) else (none)) else (brazierref5_Lines.l2 k x0 x3 x4 x5 x6 x7)
def brazierref5_Lines.j4 : Nat → ByteArray → List (S30) → Int → Int → Int → ByteArray → Option ((List (S30)))
 | 0, _, _, _, _, _, _ => none
 | k + 1, x0, x3, x4, x5, x6, x7 => brazierref5_Lines.l3 k x0 x3 x4 x5 x6 x7
def brazierref5_Lines.l3 : Nat → ByteArray → List (S30) → Int → Int → Int → ByteArray → Option ((List (S30)))
 | 0, _, _, _, _, _, _ => none
 | k + 1, x0, x3, x4, x5, x6, x7 => if x7.toList = ([] : List UInt8) then (brazierref5_Lines.l0 k x0 x3 x4 x5 (wrap64 (x6 + 1))) else (if 0 ≤ (wrap64 ((x7.size : Int) - 1)) then (if (wrap64 ((x7.size : Int) - 1)) < (x7.size : Int) then (if (bt x7 (wrap64 ((x7.size : Int) - 1))) = 32 then (if (wrap64 ((x7.size : Int) - 1)) ≤ (x7.size : Int) then (brazierref5_Lines.l3 k x0 x3 x4 x5 x6 (x7.extract 0 ((wrap64 ((x7.size : Int) - 1)) : Int).toNat)) else (none)) else (if (bt x7 (wrap64 ((x7.size : Int) - 1))) = 9 then (if (wrap64 ((x7.size : Int) - 1)) ≤ (x7.size : Int) then (brazierref5_Lines.l3 k x0 x3 x4 x5 x6 (x7.extract 0 ((wrap64 ((x7.size : Int) - 1)) : Int).toNat)) else (none)) else (if x3.length < 5864062014805 then (brazierref5_Lines.l0 k x0 (x3 ++ [(⟨x5, x7⟩ : S30)]) x4 x5 (wrap64 (x6 + 1))) else (none)))) else (none)) else (none))
def brazierref5_Lines.l2 : Nat → ByteArray → List (S30) → Int → Int → Int → ByteArray → Option ((List (S30)))
 | 0, _, _, _, _, _, _ => none
 | k + 1, x0, x3, x4, x5, x6, x7 => if x7.toList = ([] : List UInt8) then (brazierref5_Lines.j4 k x0 x3 x4 x5 x6 x7) else (if 0 < (x7.size : Int) then (if (bt x7 0) = 32 then (if 1 ≤ (x7.size : Int) then (brazierref5_Lines.l2 k x0 x3 x4 x5 x6 (x7.extract 1 x7.size)) else (none)) else (if (bt x7 0) = 9 then (if 1 ≤ (x7.size : Int) then (brazierref5_Lines.l2 k x0 x3 x4 x5 x6 (x7.extract 1 x7.size)) else (none)) else (brazierref5_Lines.j4 k x0 x3 x4 x5 x6 x7))) else (none))
end
def brazierref5_Lines.f (k : Nat) (a0 : ByteArray) : Option ((List (S30))) := brazierref5_Lines.l0 k a0 ([] : List (S30)) 0 0 0
theorem brazierref5_Lines.mono_l : ∀ k, (∀ y0 y1 y2 y3 y4, LeO (brazierref5_Lines.l0 k y0 y1 y2 y3 y4) (brazierref5_Lines.l0 (k + 1) y0 y1 y2 y3 y4)) ∧ (∀ y0 y1 y2 y3 y4 y5, LeO (brazierref5_Lines.j1 k y0 y1 y2 y3 y4 y5) (brazierref5_Lines.j1 (k + 1) y0 y1 y2 y3 y4 y5)) ∧ (∀ y0 y1 y2 y3 y4 y5 y6, LeO (brazierref5_Lines.l1 k y0 y1 y2 y3 y4 y5 y6) (brazierref5_Lines.l1 (k + 1) y0 y1 y2 y3 y4 y5 y6)) ∧ (∀ y0 y1 y2 y3 y4 y5, LeO (brazierref5_Lines.j4 k y0 y1 y2 y3 y4 y5) (brazierref5_Lines.j4 (k + 1) y0 y1 y2 y3 y4 y5)) ∧ (∀ y0 y1 y2 y3 y4 y5, LeO (brazierref5_Lines.l3 k y0 y1 y2 y3 y4 y5) (brazierref5_Lines.l3 (k + 1) y0 y1 y2 y3 y4 y5)) ∧ (∀ y0 y1 y2 y3 y4 y5, LeO (brazierref5_Lines.l2 k y0 y1 y2 y3 y4 y5) (brazierref5_Lines.l2 (k + 1) y0 y1 y2 y3 y4 y5))
 | 0 => ⟨fun _ _ _ _ _ r h => by simp [brazierref5_Lines.l0] at h, fun _ _ _ _ _ _ r h => by simp [brazierref5_Lines.j1] at h, fun _ _ _ _ _ _ _ r h => by simp [brazierref5_Lines.l1] at h, fun _ _ _ _ _ _ r h => by simp [brazierref5_Lines.j4] at h, fun _ _ _ _ _ _ r h => by simp [brazierref5_Lines.l3] at h, fun _ _ _ _ _ _ r h => by simp [brazierref5_Lines.l2] at h⟩
 | k + 1 => by
  obtain ⟨ih0, ih1, ih2, ih3, ih4, ih5⟩ := brazierref5_Lines.mono_l k
  refine ⟨?_, ?_, ?_, ?_, ?_, ?_⟩
  ·intro y0 y1 y2 y3 y4
   unfold brazierref5_Lines.l0
   repeat' first
   | (with_reducible exact ih0 _ _ _ _ _)
   | (with_reducible exact ih1 _ _ _ _ _ _)
   | (with_reducible exact ih2 _ _ _ _ _ _ _)
   | (with_reducible exact ih3 _ _ _ _ _ _)
   | (with_reducible exact ih4 _ _ _ _ _ _)
   | (with_reducible exact ih5 _ _ _ _ _ _)
   | (with_reducible exact LeO.refl _)
   | (with_reducible exact LeO.none _)
   | (with_reducible refine LeO.ite ?_ ?_)
   | (with_reducible refine LeO.bind ?_ (fun _ => ?_))
   | exact ih0 _ _ _ _ _
   | exact ih1 _ _ _ _ _ _
   | exact ih2 _ _ _ _ _ _ _
   | exact ih3 _ _ _ _ _ _
   | exact ih4 _ _ _ _ _ _
   | exact ih5 _ _ _ _ _ _
   | exact LeO.none _
   | refine LeO.ite ?_ ?_
   | refine LeO.bind ?_ (fun _ => ?_)
  ·intro y0 y1 y2 y3 y4 y5
   unfold brazierref5_Lines.j1
   repeat' first
   | (with_reducible exact ih0 _ _ _ _ _)
   | (with_reducible exact ih1 _ _ _ _ _ _)
   | (with_reducible exact ih2 _ _ _ _ _ _ _)
   | (with_reducible exact ih3 _ _ _ _ _ _)
   | (with_reducible exact ih4 _ _ _ _ _ _)
   | (with_reducible exact ih5 _ _ _ _ _ _)
   | (with_reducible exact LeO.refl _)
   | (with_reducible exact LeO.none _)
   | (with_reducible refine LeO.ite ?_ ?_)
   | (with_reducible refine LeO.bind ?_ (fun _ => ?_))
   | exact ih0 _ _ _ _ _
   | exact ih1 _ _ _ _ _ _
   | exact ih2 _ _ _ _ _ _ _
   | exact ih3 _ _ _ _ _ _
   | exact ih4 _ _ _ _ _ _
   | exact ih5 _ _ _ _ _ _
   | exact LeO.none _
   | refine LeO.ite ?_ ?_
   | refine LeO.bind ?_ (fun _ => ?_)
  ·intro y0 y1 y2 y3 y4 y5 y6
   unfold brazierref5_Lines.l1
   repeat' first
   | (with_reducible exact ih0 _ _ _ _ _)
   | (with_reducible exact ih1 _ _ _ _ _ _)
   | (with_reducible exact ih2 _ _ _ _ _ _ _)
   | (with_reducible exact ih3 _ _ _ _ _ _)
   | (with_reducible exact ih4 _ _ _ _ _ _)
   | (with_reducible exact ih5 _ _ _ _ _ _)
   | (with_reducible exact LeO.refl _)
   | (with_reducible exact LeO.none _)
   | (with_reducible refine LeO.ite ?_ ?_)
   | (with_reducible refine LeO.bind ?_ (fun _ => ?_))
   | exact ih0 _ _ _ _ _
   | exact ih1 _ _ _ _ _ _
   | exact ih2 _ _ _ _ _ _ _
   | exact ih3 _ _ _ _ _ _
   | exact ih4 _ _ _ _ _ _
   | exact ih5 _ _ _ _ _ _
   | exact LeO.none _
   | refine LeO.ite ?_ ?_
   | refine LeO.bind ?_ (fun _ => ?_)
  ·intro y0 y1 y2 y3 y4 y5
   unfold brazierref5_Lines.j4
   repeat' first
   | (with_reducible exact ih0 _ _ _ _ _)
   | (with_reducible exact ih1 _ _ _ _ _ _)
   | (with_reducible exact ih2 _ _ _ _ _ _ _)
   | (with_reducible exact ih3 _ _ _ _ _ _)
   | (with_reducible exact ih4 _ _ _ _ _ _)
   | (with_reducible exact ih5 _ _ _ _ _ _)
   | (with_reducible exact LeO.refl _)
   | (with_reducible exact LeO.none _)
   | (with_reducible refine LeO.ite ?_ ?_)
   | (with_reducible refine LeO.bind ?_ (fun _ => ?_))
   | exact ih0 _ _ _ _ _
   | exact ih1 _ _ _ _ _ _
   | exact ih2 _ _ _ _ _ _ _
   | exact ih3 _ _ _ _ _ _
   | exact ih4 _ _ _ _ _ _
   | exact ih5 _ _ _ _ _ _
   | exact LeO.none _
   | refine LeO.ite ?_ ?_
   | refine LeO.bind ?_ (fun _ => ?_)
  ·intro y0 y1 y2 y3 y4 y5
   unfold brazierref5_Lines.l3
   repeat' first
   | (with_reducible exact ih0 _ _ _ _ _)
   | (with_reducible exact ih1 _ _ _ _ _ _)
   | (with_reducible exact ih2 _ _ _ _ _ _ _)
   | (with_reducible exact ih3 _ _ _ _ _ _)
   | (with_reducible exact ih4 _ _ _ _ _ _)
   | (with_reducible exact ih5 _ _ _ _ _ _)
   | (with_reducible exact LeO.refl _)
   | (with_reducible exact LeO.none _)
   | (with_reducible refine LeO.ite ?_ ?_)
   | (with_reducible refine LeO.bind ?_ (fun _ => ?_))
   | exact ih0 _ _ _ _ _
   | exact ih1 _ _ _ _ _ _
   | exact ih2 _ _ _ _ _ _ _
   | exact ih3 _ _ _ _ _ _
   | exact ih4 _ _ _ _ _ _
   | exact ih5 _ _ _ _ _ _
   | exact LeO.none _
   | refine LeO.ite ?_ ?_
   | refine LeO.bind ?_ (fun _ => ?_)
  ·intro y0 y1 y2 y3 y4 y5
   unfold brazierref5_Lines.l2
   repeat' first
   | (with_reducible exact ih0 _ _ _ _ _)
   | (with_reducible exact ih1 _ _ _ _ _ _)
   | (with_reducible exact ih2 _ _ _ _ _ _ _)
   | (with_reducible exact ih3 _ _ _ _ _ _)
   | (with_reducible exact ih4 _ _ _ _ _ _)
   | (with_reducible exact ih5 _ _ _ _ _ _)
   | (with_reducible exact LeO.refl _)
   | (with_reducible exact LeO.none _)
   | (with_reducible refine LeO.ite ?_ ?_)
   | (with_reducible refine LeO.bind ?_ (fun _ => ?_))
   | exact ih0 _ _ _ _ _
   | exact ih1 _ _ _ _ _ _
   | exact ih2 _ _ _ _ _ _ _
   | exact ih3 _ _ _ _ _ _
   | exact ih4 _ _ _ _ _ _
   | exact ih5 _ _ _ _ _ _
   | exact LeO.none _
   | refine LeO.ite ?_ ?_
   | refine LeO.bind ?_ (fun _ => ?_)
theorem brazierref5_Lines.mono : ∀ a0 k, LeO (brazierref5_Lines.f k a0) (brazierref5_Lines.f (k + 1) a0) := by
 intro a0 k
 obtain ⟨ih0, ih1, ih2, ih3, ih4, ih5⟩ := brazierref5_Lines.mono_l k
 unfold brazierref5_Lines.f
 repeat' first
   | (with_reducible exact ih0 _ _ _ _ _)
   | (with_reducible exact ih1 _ _ _ _ _ _)
   | (with_reducible exact ih2 _ _ _ _ _ _ _)
   | (with_reducible exact ih3 _ _ _ _ _ _)
   | (with_reducible exact ih4 _ _ _ _ _ _)
   | (with_reducible exact ih5 _ _ _ _ _ _)
   | (with_reducible exact LeO.refl _)
   | (with_reducible exact LeO.none _)
   | (with_reducible refine LeO.ite ?_ ?_)
   | (with_reducible refine LeO.bind ?_ (fun _ => ?_))
   | exact ih0 _ _ _ _ _
   | exact ih1 _ _ _ _ _ _
   | exact ih2 _ _ _ _ _ _ _
   | exact ih3 _ _ _ _ _ _
   | exact ih4 _ _ _ _ _ _
   | exact ih5 _ _ _ _ _ _
   | exact LeO.none _
   | refine LeO.ite ?_ ?_
   | refine LeO.bind ?_ (fun _ => ?_)
set_option maxHeartbeats 8000000 in
set_option maxRecDepth 100000 in
theorem brazierref5_Lines.calls (k : Nat) (a0 : ByteArray) (r : List (S30)) (w : World) (h : brazierref5_Lines.f k a0 = some r) :
  Calls Tryz.prog 6 #[.string a0] w fun e w' => ∃ v0_ : Value, e = .returned (v0_) ∧ Kd.R k30 30 w' w.heap.size (fun _ => True) v0_ r ∧ Below w.heap.size w w' := by
 have hu30 := Tryz.underlying30
 have HB := Aside0.mk (Below.refl w.heap.size w)
 have H : (brazierref5_Lines.l0 k a0 ([] : List (S30)) 0 0 0) = some r := h
 clear h
 have H' := Aside0.mk H
 clear H
 go_enter Tryz.func6, Tryz.ntmps6
 go_wp2
 go_loopg [3, 4, 5, 6] k (fun kq v3 v4 v5 v6 w' => ∃ (x3_1 : List (S30)) (x4_1 : Int) (x5_1 : Int) (x6_1 : Int), v4 = .int .i64 x4_1 ∧ v5 = .int .i64 x5_1 ∧ v6 = .int .i64 x6_1 ∧ Aside0 (brazierref5_Lines.l0 kq a0 x3_1 x4_1 x5_1 x6_1 = some r) ∧ Aside0 (kq ≤ k) ∧ Aside0 (Kd.R k30 30 w' w.heap.size (fun _ => True) v3 x3_1) ∧ Aside0 (Below w.heap.size w w'))
 case atStart => exact ⟨(([] : List (S30))), (0), (0), (0), (by first | rfl | (simp; done) | (simp [*]; done)), (by first | rfl | (simp; done) | (simp [*]; done)), (by first | rfl | (simp; done) | (simp [*]; done)), H', ⟨Nat.le_refl _⟩, ⟨by first | exact Kd.R_nil _ _ _ _ _ | exact Kd.N_nil _ _ _ _ _ | exact Kd.V_nil _ _ _ _ _ | exact Kd.Q_nil _ _ _ _ _ | exact Kd.S_nil _ _ _ _ _⟩, ⟨by repeat (first | (with_reducible first | exact HB.out | apply below_alloc | apply pw_below_drewN | apply below_drew1) | exact HB.out)⟩⟩
 case round =>
  clear H'
  obtain ⟨x3_1, x4_1, x5_1, x6_1, rfl, rfl, rfl, HA, HK1, HO_3, HB⟩ := hrel
  cases gk with
  | zero => exact absurd HA.out (by simp [brazierref5_Lines.l0])
  | succ k1 =>
   have H := HA.out
   clear HA
   simp only [brazierref5_Lines.l0] at H
   by_cases c2 : x6_1 ≤ (a0.size : Int)
   ·rw [if_pos c2] at H
    have c2b0 : decide (x6_1 ≤ (a0.size : Int)) = true := decide_eq_true c2
    clear c2
    have HC3 := Aside0.mk H
    clear H
    go_upto_region 7 with (fail)
    go_cut [24] (fun v24 wc => ∃ (kq : Nat) (x24_2 : Bool), v24 = .bool x24_2 ∧ Aside0 (brazierref5_Lines.j1 kq a0 x3_1 x4_1 x5_1 x6_1 x24_2 = some r) ∧ Aside0 (kq ≤ k1) ∧ Aside0 (Kd.R k30 30 wc w.heap.size (fun _ => True) u3 x3_1) ∧ Aside0 (Below w.heap.size w wc))
    case first =>
     have H := HC3.out
     clear HC3
     by_cases c4 : x6_1 < (a0.size : Int)
     ·rw [if_pos c4] at H
      have c4b0 : decide (x6_1 < (a0.size : Int)) = true := decide_eq_true c4
      clear c4
      (first | rw [c4b0] | (simp only [i64_w, i32_w]; rw [c4b0]) | skip)
      by_cases c5 : 0 ≤ x6_1
      ·rw [if_pos c5] at H
       have c5b0 : decide (0 ≤ x6_1) = true := decide_eq_true c5
       clear c5
       have H' := Aside0.mk H
       clear H
       have p6 : 0 ≤ (x6_1 : Int) := of_decide_eq_true (by first | (with_reducible assumption) | assumption)
       have q6 : x6_1 < (a0.size : Int) := of_decide_eq_true (by first | (with_reducible assumption) | assumption)
       have hx6 := bt_at a0 x6_1
       replace p6 := eq_true p6
       replace q6 := eq_true q6
       go_wp2
       go_meet
       case rel => exact ⟨_, (((bt a0 x6_1) != 10)), (by first | rfl | (simp; done) | (simp [*]; done)), H', ⟨by have := HK1.out; first | omega | exact Nat.le_refl _⟩, ⟨by (with_reducible repeat (first | apply Kd.R_alloc | apply Kd.R_drewN | apply Kd.R_drew)); exact HO_3.out⟩, ⟨by repeat (first | (with_reducible first | exact HB.out | apply below_alloc | apply pw_below_drewN | apply below_drew1) | exact HB.out)⟩⟩
      ·rw [if_neg c5] at H
       exact absurd H (by simp)
     ·rw [if_neg c4] at H
      have c4b0 : decide (x6_1 < (a0.size : Int)) = false := decide_eq_false c4
      clear c4
      (first | rw [c4b0] | (simp only [i64_w, i32_w]; rw [c4b0]) | skip)
      have H' := Aside0.mk H
      clear H
      go_wp2
      go_meet
      case rel => exact ⟨_, (false), (by first | rfl | (simp; done) | (simp [*]; done)), H', ⟨by have := HK1.out; first | omega | exact Nat.le_refl _⟩, ⟨by (with_reducible repeat (first | apply Kd.R_alloc | apply Kd.R_drewN | apply Kd.R_drew)); exact HO_3.out⟩, ⟨by repeat (first | (with_reducible first | exact HB.out | apply below_alloc | apply pw_below_drewN | apply below_drew1) | exact HB.out)⟩⟩
    case rest =>
     clear HC3
     try clear c2
     try clear c2b0
     try clear p2
     try clear c4
     try clear c4b0
     try clear c5
     try clear c5b0
     try clear c6
     try clear p6
     try clear q6
     try clear hx6
     try clear p6
     try clear q6
     obtain ⟨kq, x24_2, rfl, HA, HJ2, HO_3, HB⟩ := hcut
     cases kq with
     | zero => exact absurd HA.out (by simp [brazierref5_Lines.j1])
     | succ kj2 =>
      have H := HA.out
      clear HA
      simp only [brazierref5_Lines.j1] at H
      by_cases c7 : x24_2 = true
      ·subst c7
       have H1 : (brazierref5_Lines.l0 kj2 a0 x3_1 x4_1 x5_1 (wrap64 (x6_1 + 1))) = some r := by rw [if_pos rfl] at H; exact H
       clear H
       have H := H1
       clear H1
       have H' := Aside0.mk H
       clear H
       go_wp2
       go_roundg kj2
       case measure => have := HK1.out; have := HJ2.out; omega
       case rel => exact ⟨(x3_1), (x4_1), (x5_1), (wrap64 (x6_1 + 1)), (by first | rfl | (simp; done) | (simp [*]; done)), (by first | rfl | (simp; done) | (simp [*]; done)), (by first | rfl | (simp; done) | (simp [*]; done)), H', ⟨by have := HK1.out; have := HJ2.out; omega⟩, ⟨by (with_reducible repeat (first | apply Kd.R_alloc | apply Kd.R_drewN | apply Kd.R_drew)); exact HO_3.out⟩, ⟨by repeat (first | (with_reducible first | exact HB.out | apply below_alloc | apply pw_below_drewN | apply below_drew1) | exact HB.out)⟩⟩
      ·replace c7 := Bool.eq_false_iff.mpr c7
       subst c7
       have H1 : (if 0 ≤ x4_1 then (if x4_1 ≤ x6_1 then (if x6_1 ≤ (a0.size : Int) then (brazierref5_Lines.l1 kj2 a0 x3_1 (wrap64 (x6_1 + 1)) (wrap64 (x5_1 + 1)) x6_1 (a0.extract (x4_1 : Int).toNat (x6_1 : Int).toNat) 0) else (none)) else (none)) else (none)) = some r := by rw [if_neg (show ¬ (false = true) by decide)] at H; exact H
       clear H
       have H := H1
       clear H1
       by_cases c8 : 0 ≤ x4_1
       ·rw [if_pos c8] at H
        have c8b0 := eq_true c8
        have c8b1 : decide (0 ≤ x4_1) = true := decide_eq_true c8
        clear c8
        by_cases c9 : x4_1 ≤ x6_1
        ·rw [if_pos c9] at H
         have c9b0 := eq_true c9
         have c9b1 : decide (x4_1 ≤ x6_1) = true := decide_eq_true c9
         clear c9
         by_cases c10 : x6_1 ≤ (a0.size : Int)
         ·rw [if_pos c10] at H
          have c10b0 := eq_true c10
          have c10b1 : decide (x6_1 ≤ (a0.size : Int)) = true := decide_eq_true c10
          clear c10
          have H' := Aside0.mk H
          clear H
          go_wp2
          go_loopg [7, 8] kj2 (fun kq v7 v8 w' => ∃ (x7_3 : ByteArray) (x8_3 : Int), v7 = .string x7_3 ∧ v8 = .int .i64 x8_3 ∧ Aside0 (brazierref5_Lines.l1 kq a0 x3_1 (wrap64 (x6_1 + 1)) (wrap64 (x5_1 + 1)) x6_1 x7_3 x8_3 = some r) ∧ Aside0 (kq ≤ kj2) ∧ Aside0 (Kd.R k30 30 w' w.heap.size (fun _ => True) u3 x3_1) ∧ Aside0 (Below w.heap.size w w'))
          case atStart => exact ⟨(a0.extract (x4_1 : Int).toNat (x6_1 : Int).toNat), (0), (by first | rfl | (simp; done) | (simp [*]; done)), (by first | rfl | (simp; done) | (simp [*]; done)), H', ⟨Nat.le_refl _⟩, ⟨by (with_reducible repeat (first | apply Kd.R_alloc | apply Kd.R_drewN | apply Kd.R_drew)); exact HO_3.out⟩, ⟨by repeat (first | (with_reducible first | exact HB.out | apply below_alloc | apply pw_below_drewN | apply below_drew1) | exact HB.out)⟩⟩
          case round =>
           clear H'
           try clear c1
           try clear c2
           try clear c2b0
           try clear p2
           try clear c4
           try clear c4b0
           try clear c5
           try clear c5b0
           try clear c6
           try clear p6
           try clear q6
           try clear hx6
           try clear c7
           try clear c8
           try clear c8b0
           try clear c8b1
           try clear c9
           try clear c9b0
           try clear c9b1
           try clear c10
           try clear c10b0
           try clear c10b1
           try clear p2
           try clear p6
           try clear q6
           obtain ⟨x7_3, x8_3, rfl, rfl, HA, HK3, HO_3, HB⟩ := hrel
           cases gk with
           | zero => exact absurd HA.out (by simp [brazierref5_Lines.l1])
           | succ k3 =>
            have H := HA.out
            clear HA
            simp only [brazierref5_Lines.l1] at H
            by_cases c11 : x8_3 < (x7_3.size : Int)
            ·rw [if_pos c11] at H
             have c11b0 : decide (x8_3 < (x7_3.size : Int)) = true := decide_eq_true c11
             clear c11
             by_cases c12 : 0 ≤ x8_3
             ·rw [if_pos c12] at H
              have c12b0 : decide (0 ≤ x8_3) = true := decide_eq_true c12
              clear c12
              by_cases c14 : (bt x7_3 x8_3) = 59
              ·rw [if_pos c14] at H
               have c14b0 : ((bt x7_3 x8_3) == 59) = true := beq_iff_eq.mpr c14
               have c14b1 : ((bt x7_3 x8_3) != 59) = false := bne_eq_false_iff_eq.mpr c14
               clear c14
               have c15b0 := eq_true (of_decide_eq_true (by first | (with_reducible assumption) | assumption) : 0 ≤ x8_3)
               by_cases c16 : x8_3 ≤ (x7_3.size : Int)
               ·rw [if_pos c16] at H
                have c16b0 := eq_true c16
                have c16b1 : decide (x8_3 ≤ (x7_3.size : Int)) = true := decide_eq_true c16
                clear c16
                have H' := Aside0.mk H
                clear H
                have p13 : 0 ≤ (x8_3 : Int) := of_decide_eq_true (by first | (with_reducible assumption) | assumption)
                have q13 : x8_3 < (x7_3.size : Int) := of_decide_eq_true (by first | (with_reducible assumption) | assumption)
                have hx13 := bt_at x7_3 x8_3
                replace p13 := eq_true p13
                replace q13 := eq_true q13
                go_wp2
                go_roundg k3
                case measure => have := HK1.out; have := HJ2.out; have := HK3.out; omega
                case rel => exact ⟨(x7_3.extract 0 (x8_3 : Int).toNat), (wrap64 (x8_3 + 1)), (by first | rfl | (simp; done) | (simp [*]; done)), (by first | rfl | (simp; done) | (simp [*]; done)), H', ⟨by have := HK1.out; have := HJ2.out; have := HK3.out; omega⟩, ⟨by (with_reducible repeat (first | apply Kd.R_alloc | apply Kd.R_drewN | apply Kd.R_drew)); exact HO_3.out⟩, ⟨by repeat (first | (with_reducible first | exact HB.out | apply below_alloc | apply pw_below_drewN | apply below_drew1) | exact HB.out)⟩⟩
               ·rw [if_neg c16] at H
                exact absurd H (by simp)
              ·rw [if_neg c14] at H
               have c14b0 : ((bt x7_3 x8_3) == 59) = false := beq_eq_false_iff_ne.mpr c14
               have c14b1 : ((bt x7_3 x8_3) != 59) = true := bne_iff_ne.mpr c14
               have H' := Aside0.mk H
               clear H
               have p13 : 0 ≤ (x8_3 : Int) := of_decide_eq_true (by first | (with_reducible assumption) | assumption)
               have q13 : x8_3 < (x7_3.size : Int) := of_decide_eq_true (by first | (with_reducible assumption) | assumption)
               have hx13 := bt_at x7_3 x8_3
               replace p13 := eq_true p13
               replace q13 := eq_true q13
               go_wp2
               go_roundg k3
               case measure => have := HK1.out; have := HJ2.out; have := HK3.out; omega
               case rel => exact ⟨(x7_3), (wrap64 (x8_3 + 1)), (by first | rfl | (simp; done) | (simp [*]; done)), (by first | rfl | (simp; done) | (simp [*]; done)), H', ⟨by have := HK1.out; have := HJ2.out; have := HK3.out; omega⟩, ⟨by (with_reducible repeat (first | apply Kd.R_alloc | apply Kd.R_drewN | apply Kd.R_drew)); exact HO_3.out⟩, ⟨by repeat (first | (with_reducible first | exact HB.out | apply below_alloc | apply pw_below_drewN | apply below_drew1) | exact HB.out)⟩⟩
             ·rw [if_neg c12] at H
              exact absurd H (by simp)
            ·rw [if_neg c11] at H
             have c11b0 : decide (x8_3 < (x7_3.size : Int)) = false := decide_eq_false c11
             clear c11
             have HC17 := Aside0.mk H
             clear H
             go_upto_block 4 with (fail)
             go_cut [7] (fun v7 wc => ∃ (kq : Nat) (x7_16 : ByteArray), v7 = .string x7_16 ∧ Aside0 (brazierref5_Lines.j4 kq a0 x3_1 (wrap64 (x6_1 + 1)) (wrap64 (x5_1 + 1)) x6_1 x7_16 = some r) ∧ Aside0 (kq ≤ k3) ∧ Aside0 (Kd.R k30 30 wc w.heap.size (fun _ => True) u3 x3_1) ∧ Aside0 (Below w.heap.size w wc))
             case first =>
              have H := HC17.out
              clear HC17
              have H' := Aside0.mk H
              clear H
              go_wp2
              go_loopg [7] k3 (fun kq v7 w' => ∃ (x7_4 : ByteArray), v7 = .string x7_4 ∧ Aside0 (brazierref5_Lines.l2 kq a0 x3_1 (wrap64 (x6_1 + 1)) (wrap64 (x5_1 + 1)) x6_1 x7_4 = some r) ∧ Aside0 (kq ≤ k3) ∧ Aside0 (Kd.R k30 30 w' w.heap.size (fun _ => True) u3 x3_1) ∧ Aside0 (Below w.heap.size w w'))
              case atStart => exact ⟨(x7_3), (by first | rfl | (simp; done) | (simp [*]; done)), H', ⟨Nat.le_refl _⟩, ⟨by (with_reducible repeat (first | apply Kd.R_alloc | apply Kd.R_drewN | apply Kd.R_drew)); exact HO_3.out⟩, ⟨by repeat (first | (with_reducible first | exact HB.out | apply below_alloc | apply pw_below_drewN | apply below_drew1) | exact HB.out)⟩⟩
              case round =>
               clear H'
               try clear c1
               try clear p1
               try clear q1
               try clear hx1
               try clear c2
               try clear c2b0
               try clear p2
               try clear c4
               try clear c4b0
               try clear c5
               try clear c5b0
               try clear c6
               try clear p6
               try clear q6
               try clear hx6
               try clear c7
               try clear c8
               try clear c8b0
               try clear c8b1
               try clear c9
               try clear c9b0
               try clear c9b1
               try clear c10
               try clear c10b0
               try clear c10b1
               try clear c11
               try clear c11b0
               try clear c12
               try clear c12b0
               try clear p13
               try clear q13
               try clear hx13
               try clear c14
               try clear c14b0
               try clear c14b1
               try clear c15
               try clear c15b0
               try clear c16
               try clear c16b0
               try clear c16b1
               try clear p13
               try clear p2
               try clear p6
               try clear q13
               try clear q6
               obtain ⟨x7_4, rfl, HA, HK4, HO_3, HB⟩ := hrel
               cases gk with
               | zero => exact absurd HA.out (by simp [brazierref5_Lines.l2])
               | succ k4 =>
                have H := HA.out
                clear HA
                simp only [brazierref5_Lines.l2] at H
                by_cases c18 : x7_4.toList = ([] : List UInt8)
                ·rw [if_pos c18] at H
                 have c18b0 : (x7_4.toList == ([] : List UInt8)) = true := beq_iff_eq.mpr c18
                 have c18b1 : (x7_4.toList != ([] : List UInt8)) = false := bne_eq_false_iff_eq.mpr c18
                 clear c18
                 (first | rw [c18b0] | (simp only [i64_w, i32_w]; rw [c18b0]) | skip)
                 have H' := Aside0.mk H
                 clear H
                 go_wp2
                 go_meet
                 case rel => exact ⟨_, (x7_4), (by first | rfl | (simp; done) | (simp [*]; done)), H', ⟨by have := HK1.out; have := HJ2.out; have := HK3.out; have := HK4.out; first | omega | exact Nat.le_refl _⟩, ⟨by (with_reducible repeat (first | apply Kd.R_alloc | apply Kd.R_drewN | apply Kd.R_drew)); exact HO_3.out⟩, ⟨by repeat (first | (with_reducible first | exact HB.out | apply below_alloc | apply pw_below_drewN | apply below_drew1) | exact HB.out)⟩⟩
                ·rw [if_neg c18] at H
                 have c18b0 : (x7_4.toList == ([] : List UInt8)) = false := beq_eq_false_iff_ne.mpr c18
                 have c18b1 : (x7_4.toList != ([] : List UInt8)) = true := bne_iff_ne.mpr c18
                 (first | rw [c18b0] | (simp only [i64_w, i32_w]; rw [c18b0]) | skip)
                 by_cases c19 : 0 < (x7_4.size : Int)
                 ·rw [if_pos c19] at H
                  have c19b0 : decide (0 < (x7_4.size : Int)) = true := decide_eq_true c19
                  have c19b1 : decide (0 < x7_4.size) = true := decide_eq_true (by omega)
                  clear c19
                  by_cases c21 : (bt x7_4 0) = 32
                  ·rw [if_pos c21] at H
                   have c21b0 : ((bt x7_4 0) == 32) = true := beq_iff_eq.mpr c21
                   have c21b1 : ((bt x7_4 0) != 32) = false := bne_eq_false_iff_eq.mpr c21
                   clear c21
                   by_cases c22 : 1 ≤ (x7_4.size : Int)
                   ·rw [if_pos c22] at H
                    have c22b0 := eq_true c22
                    have c22b1 : decide (1 ≤ (x7_4.size : Int)) = true := decide_eq_true c22
                    clear c22
                    have H' := Aside0.mk H
                    clear H
                    have p20 : 0 ≤ (0 : Int) := (by omega)
                    have q20 : 0 < x7_4.size := (by have : (0 : Int) < (x7_4.size : Int) := of_decide_eq_true (by first | (with_reducible assumption) | assumption); omega)
                    have hx20 : ∀ h : 0 < x7_4.size, ((x7_4[0]'h).toNat : Int) = bt x7_4 0 := bt_at x7_4 0
                    clear p20
                    have qi20 : (0 < (x7_4.size : Int)) = True := eq_true (of_decide_eq_true (by first | (with_reducible assumption) | assumption))
                    replace q20 := eq_true q20
                    go_wp2
                    go_roundg k4
                    case measure => have := HK1.out; have := HJ2.out; have := HK3.out; have := HK4.out; omega
                    case rel => exact ⟨(x7_4.extract 1 x7_4.size), (by first | rfl | (simp; done) | (simp [*]; done)), H', ⟨by have := HK1.out; have := HJ2.out; have := HK3.out; have := HK4.out; omega⟩, ⟨by (with_reducible repeat (first | apply Kd.R_alloc | apply Kd.R_drewN | apply Kd.R_drew)); exact HO_3.out⟩, ⟨by repeat (first | (with_reducible first | exact HB.out | apply below_alloc | apply pw_below_drewN | apply below_drew1) | exact HB.out)⟩⟩
                   ·rw [if_neg c22] at H
                    exact absurd H (by simp)
                  ·rw [if_neg c21] at H
                   have c21b0 : ((bt x7_4 0) == 32) = false := beq_eq_false_iff_ne.mpr c21
                   have c21b1 : ((bt x7_4 0) != 32) = true := bne_iff_ne.mpr c21
                   by_cases c24 : (bt x7_4 0) = 9
                   ·rw [if_pos c24] at H
                    have c24b0 : ((bt x7_4 0) == 9) = true := beq_iff_eq.mpr c24
                    have c24b1 : ((bt x7_4 0) != 9) = false := bne_eq_false_iff_eq.mpr c24
                    clear c24
                    by_cases c25 : 1 ≤ (x7_4.size : Int)
                    ·rw [if_pos c25] at H
                     have c25b0 := eq_true c25
                     have c25b1 : decide (1 ≤ (x7_4.size : Int)) = true := decide_eq_true c25
                     clear c25
                     have H' := Aside0.mk H
                     clear H
                     have p20 : 0 ≤ (0 : Int) := (by omega)
                     have q20 : 0 < x7_4.size := (by have : (0 : Int) < (x7_4.size : Int) := of_decide_eq_true (by first | (with_reducible assumption) | assumption); omega)
                     have hx20 : ∀ h : 0 < x7_4.size, ((x7_4[0]'h).toNat : Int) = bt x7_4 0 := bt_at x7_4 0
                     clear p20
                     have qi20 : (0 < (x7_4.size : Int)) = True := eq_true (of_decide_eq_true (by first | (with_reducible assumption) | assumption))
                     replace q20 := eq_true q20
                     have p23 : 0 ≤ (0 : Int) := (by omega)
                     have q23 : 0 < x7_4.size := (by have : (0 : Int) < (x7_4.size : Int) := of_decide_eq_true (by first | (with_reducible assumption) | assumption); omega)
                     have hx23 : ∀ h : 0 < x7_4.size, ((x7_4[0]'h).toNat : Int) = bt x7_4 0 := bt_at x7_4 0
                     clear p23
                     have qi23 : (0 < (x7_4.size : Int)) = True := eq_true (of_decide_eq_true (by first | (with_reducible assumption) | assumption))
                     replace q23 := eq_true q23
                     go_wp2
                     go_roundg k4
                     case measure => have := HK1.out; have := HJ2.out; have := HK3.out; have := HK4.out; omega
                     case rel => exact ⟨(x7_4.extract 1 x7_4.size), (by first | rfl | (simp; done) | (simp [*]; done)), H', ⟨by have := HK1.out; have := HJ2.out; have := HK3.out; have := HK4.out; omega⟩, ⟨by (with_reducible repeat (first | apply Kd.R_alloc | apply Kd.R_drewN | apply Kd.R_drew)); exact HO_3.out⟩, ⟨by repeat (first | (with_reducible first | exact HB.out | apply below_alloc | apply pw_below_drewN | apply below_drew1) | exact HB.out)⟩⟩
                    ·rw [if_neg c25] at H
                     exact absurd H (by simp)
                   ·rw [if_neg c24] at H
                    have c24b0 : ((bt x7_4 0) == 9) = false := beq_eq_false_iff_ne.mpr c24
                    have c24b1 : ((bt x7_4 0) != 9) = true := bne_iff_ne.mpr c24
                    have H' := Aside0.mk H
                    clear H
                    have p20 : 0 ≤ (0 : Int) := (by omega)
                    have q20 : 0 < x7_4.size := (by have : (0 : Int) < (x7_4.size : Int) := of_decide_eq_true (by first | (with_reducible assumption) | assumption); omega)
                    have hx20 : ∀ h : 0 < x7_4.size, ((x7_4[0]'h).toNat : Int) = bt x7_4 0 := bt_at x7_4 0
                    clear p20
                    have qi20 : (0 < (x7_4.size : Int)) = True := eq_true (of_decide_eq_true (by first | (with_reducible assumption) | assumption))
                    replace q20 := eq_true q20
                    have p23 : 0 ≤ (0 : Int) := (by omega)
                    have q23 : 0 < x7_4.size := (by have : (0 : Int) < (x7_4.size : Int) := of_decide_eq_true (by first | (with_reducible assumption) | assumption); omega)
                    have hx23 : ∀ h : 0 < x7_4.size, ((x7_4[0]'h).toNat : Int) = bt x7_4 0 := bt_at x7_4 0
                    clear p23
                    have qi23 : (0 < (x7_4.size : Int)) = True := eq_true (of_decide_eq_true (by first | (with_reducible assumption) | assumption))
                    replace q23 := eq_true q23
                    go_wp2
                    go_meet
                    case rel => exact ⟨_, (x7_4), (by first | rfl | (simp; done) | (simp [*]; done)), H', ⟨by have := HK1.out; have := HJ2.out; have := HK3.out; have := HK4.out; first | omega | exact Nat.le_refl _⟩, ⟨by (with_reducible repeat (first | apply Kd.R_alloc | apply Kd.R_drewN | apply Kd.R_drew)); exact HO_3.out⟩, ⟨by repeat (first | (with_reducible first | exact HB.out | apply below_alloc | apply pw_below_drewN | apply below_drew1) | exact HB.out)⟩⟩
                 ·rw [if_neg c19] at H
                  exact absurd H (by simp)
             case rest =>
              clear HC17
              try clear c1
              try clear p1
              try clear q1
              try clear hx1
              try clear c2
              try clear c2b0
              try clear p2
              try clear q2
              try clear hx2
              try clear qi2
              try clear c4
              try clear c4b0
              try clear c5
              try clear c5b0
              try clear c6
              try clear p6
              try clear q6
              try clear hx6
              try clear c7
              try clear c8
              try clear c8b0
              try clear c8b1
              try clear c9
              try clear c9b0
              try clear c9b1
              try clear c10
              try clear c10b0
              try clear c10b1
              try clear c11
              try clear c11b0
              try clear c12
              try clear c12b0
              try clear p13
              try clear q13
              try clear hx13
              try clear c14
              try clear c14b0
              try clear c14b1
              try clear c15
              try clear c15b0
              try clear c16
              try clear c16b0
              try clear c16b1
              try clear c18
              try clear c18b0
              try clear c18b1
              try clear c19
              try clear c19b0
              try clear c19b1
              try clear p20
              try clear q20
              try clear hx20
              try clear qi20
              try clear c21
              try clear c21b0
              try clear c21b1
              try clear c22
              try clear c22b0
              try clear c22b1
              try clear p23
              try clear q23
              try clear hx23
              try clear qi23
              try clear c24
              try clear c24b0
              try clear c24b1
              try clear c25
              try clear c25b0
              try clear c25b1
              try clear p1
              try clear p13
              try clear p2
              try clear p20
              try clear p23
              try clear p6
              try clear q1
              try clear q13
              try clear q20
              try clear q23
              try clear q6
              obtain ⟨kq, x7_16, rfl, HA, HJ16, HO_3, HB⟩ := hcut
              cases kq with
              | zero => exact absurd HA.out (by simp [brazierref5_Lines.j4])
              | succ kj16 =>
               have H := HA.out
               clear HA
               simp only [brazierref5_Lines.j4] at H
               have H' := Aside0.mk H
               clear H
               go_wp2
               go_loopg [7] kj16 (fun kq v7 w' => ∃ (x7_5 : ByteArray), v7 = .string x7_5 ∧ Aside0 (brazierref5_Lines.l3 kq a0 x3_1 (wrap64 (x6_1 + 1)) (wrap64 (x5_1 + 1)) x6_1 x7_5 = some r) ∧ Aside0 (kq ≤ kj16) ∧ Aside0 (Kd.R k30 30 w' w.heap.size (fun _ => True) u3 x3_1) ∧ Aside0 (Below w.heap.size w w'))
               case atStart => exact ⟨(x7_16), (by first | rfl | (simp; done) | (simp [*]; done)), H', ⟨Nat.le_refl _⟩, ⟨by (with_reducible repeat (first | apply Kd.R_alloc | apply Kd.R_drewN | apply Kd.R_drew)); exact HO_3.out⟩, ⟨by repeat (first | (with_reducible first | exact HB.out | apply below_alloc | apply pw_below_drewN | apply below_drew1) | exact HB.out)⟩⟩
               case round =>
                clear H'
                try clear c1
                try clear p1
                try clear q1
                try clear hx1
                try clear c2
                try clear c2b0
                try clear p2
                try clear q2
                try clear hx2
                try clear qi2
                try clear c4
                try clear c4b0
                try clear c5
                try clear c5b0
                try clear c6
                try clear p6
                try clear q6
                try clear hx6
                try clear c7
                try clear c8
                try clear c8b0
                try clear c8b1
                try clear c9
                try clear c9b0
                try clear c9b1
                try clear c10
                try clear c10b0
                try clear c10b1
                try clear c11
                try clear c11b0
                try clear c12
                try clear c12b0
                try clear p13
                try clear q13
                try clear hx13
                try clear c14
                try clear c14b0
                try clear c14b1
                try clear c15
                try clear c15b0
                try clear c16
                try clear c16b0
                try clear c16b1
                try clear c18
                try clear c18b0
                try clear c18b1
                try clear c19
                try clear c19b0
                try clear c19b1
                try clear p20
                try clear q20
                try clear hx20
                try clear qi20
                try clear c21
                try clear c21b0
                try clear c21b1
                try clear c22
                try clear c22b0
                try clear c22b1
                try clear p23
                try clear q23
                try clear hx23
                try clear qi23
                try clear c24
                try clear c24b0
                try clear c24b1
                try clear c25
                try clear c25b0
                try clear c25b1
                try clear p1
                try clear p13
                try clear p2
                try clear p20
                try clear p23
                try clear p6
                try clear q1
                try clear q13
                try clear q2
                try clear q20
                try clear q23
                try clear q6
                obtain ⟨x7_5, rfl, HA, HK5, HO_3, HB⟩ := hrel
                cases gk with
                | zero => exact absurd HA.out (by simp [brazierref5_Lines.l3])
                | succ k5 =>
                 have H := HA.out
                 clear HA
                 simp only [brazierref5_Lines.l3] at H
                 by_cases c26 : x7_5.toList = ([] : List UInt8)
                 ·rw [if_pos c26] at H
                  have c26b0 : (x7_5.toList == ([] : List UInt8)) = true := beq_iff_eq.mpr c26
                  have c26b1 : (x7_5.toList != ([] : List UInt8)) = false := bne_eq_false_iff_eq.mpr c26
                  clear c26
                  have H' := Aside0.mk H
                  clear H
                  go_wp2
                  go_roundg k5
                  case measure => have := HK1.out; have := HJ2.out; have := HK3.out; have := HJ16.out; have := HK5.out; omega
                  case rel => exact ⟨(x3_1), ((wrap64 (x6_1 + 1))), ((wrap64 (x5_1 + 1))), (wrap64 (x6_1 + 1)), (by first | rfl | (simp; done) | (simp [*]; done)), (by first | rfl | (simp; done) | (simp [*]; done)), (by first | rfl | (simp; done) | (simp [*]; done)), H', ⟨by have := HK1.out; have := HJ2.out; have := HK3.out; have := HJ16.out; have := HK5.out; omega⟩, ⟨by (with_reducible repeat (first | apply Kd.R_alloc | apply Kd.R_drewN | apply Kd.R_drew)); exact HO_3.out⟩, ⟨by repeat (first | (with_reducible first | exact HB.out | apply below_alloc | apply pw_below_drewN | apply below_drew1) | exact HB.out)⟩⟩
                 ·rw [if_neg c26] at H
                  have c26b0 : (x7_5.toList == ([] : List UInt8)) = false := beq_eq_false_iff_ne.mpr c26
                  have c26b1 : (x7_5.toList != ([] : List UInt8)) = true := bne_iff_ne.mpr c26
                  obtain ⟨ji27, hji27⟩ : ∃ j_ : Int, (wrap64 ((x7_5.size : Int) - 1)) = j_ := ⟨_, rfl⟩
                  replace H : (if 0 ≤ (ji27) then (if (ji27) < (x7_5.size : Int) then (if (bt x7_5 (ji27)) = 32 then (if (ji27) ≤ (x7_5.size : Int) then (brazierref5_Lines.l3 k5 a0 x3_1 (wrap64 (x6_1 + 1)) (wrap64 (x5_1 + 1)) x6_1 (x7_5.extract 0 ((ji27) : Int).toNat)) else (none)) else (if (bt x7_5 (ji27)) = 9 then (if (ji27) ≤ (x7_5.size : Int) then (brazierref5_Lines.l3 k5 a0 x3_1 (wrap64 (x6_1 + 1)) (wrap64 (x5_1 + 1)) x6_1 (x7_5.extract 0 ((ji27) : Int).toNat)) else (none)) else (if x3_1.length < 5864062014805 then (brazierref5_Lines.l0 k5 a0 (x3_1 ++ [(⟨(wrap64 (x5_1 + 1)), x7_5⟩ : S30)]) (wrap64 (x6_1 + 1)) (wrap64 (x5_1 + 1)) (wrap64 (x6_1 + 1))) else (none)))) else (none)) else (none)) = some r := by first | (rw [hji27] at H; exact H) | (simp only [hji27] at H ⊢; exact H)
                  have hji27w : (IntKind.i64.wrap ((x7_5.size : Int) - 1)) = ji27 := (i64_w _).trans hji27
                  by_cases c28 : 0 ≤ (ji27)
                  ·rw [if_pos c28] at H
                   have c28b0 : decide (0 ≤ (ji27)) = true := decide_eq_true c28
                   clear c28
                   by_cases c29 : (ji27) < (x7_5.size : Int)
                   ·rw [if_pos c29] at H
                    have c29b0 : decide ((ji27) < (x7_5.size : Int)) = true := decide_eq_true c29
                    clear c29
                    by_cases c31 : (bt x7_5 (ji27)) = 32
                    ·rw [if_pos c31] at H
                     have c31b0 : ((bt x7_5 (ji27)) == 32) = true := beq_iff_eq.mpr c31
                     have c31b1 : ((bt x7_5 (ji27)) != 32) = false := bne_eq_false_iff_eq.mpr c31
                     clear c31
                     have c32b0 := eq_true (of_decide_eq_true (by first | (with_reducible assumption) | assumption) : 0 ≤ (ji27))
                     by_cases c33 : (ji27) ≤ (x7_5.size : Int)
                     ·rw [if_pos c33] at H
                      have c33b0 := eq_true c33
                      have c33b1 : decide ((ji27) ≤ (x7_5.size : Int)) = true := decide_eq_true c33
                      clear c33
                      have H' := Aside0.mk H
                      clear H
                      have p30 : 0 ≤ ((ji27) : Int) := of_decide_eq_true (by first | (with_reducible assumption) | assumption)
                      have q30 : (ji27) < (x7_5.size : Int) := of_decide_eq_true (by first | (with_reducible assumption) | assumption)
                      have hx30 := bt_at x7_5 (ji27)
                      replace p30 := eq_true p30
                      replace q30 := eq_true q30
                      go_wp2
                      go_roundg k5
                      case measure => have := HK1.out; have := HJ2.out; have := HK3.out; have := HJ16.out; have := HK5.out; omega
                      case rel => exact ⟨(x7_5.extract 0 ((ji27) : Int).toNat), (by first | rfl | (simp; done) | (simp only [← hji27] <;> (first | rfl | simp)) | (simp [*]; done)), H', ⟨by have := HK1.out; have := HJ2.out; have := HK3.out; have := HJ16.out; have := HK5.out; omega⟩, ⟨by (with_reducible repeat (first | apply Kd.R_alloc | apply Kd.R_drewN | apply Kd.R_drew)); exact HO_3.out⟩, ⟨by repeat (first | (with_reducible first | exact HB.out | apply below_alloc | apply pw_below_drewN | apply below_drew1) | exact HB.out)⟩⟩
                     ·rw [if_neg c33] at H
                      exact absurd H (by simp)
                    ·rw [if_neg c31] at H
                     have c31b0 : ((bt x7_5 (ji27)) == 32) = false := beq_eq_false_iff_ne.mpr c31
                     have c31b1 : ((bt x7_5 (ji27)) != 32) = true := bne_iff_ne.mpr c31
                     by_cases c35 : (bt x7_5 (ji27)) = 9
                     ·rw [if_pos c35] at H
                      have c35b0 : ((bt x7_5 (ji27)) == 9) = true := beq_iff_eq.mpr c35
                      have c35b1 : ((bt x7_5 (ji27)) != 9) = false := bne_eq_false_iff_eq.mpr c35
                      clear c35
                      have c36b0 := eq_true (of_decide_eq_true (by first | (with_reducible assumption) | assumption) : 0 ≤ (ji27))
                      by_cases c37 : (ji27) ≤ (x7_5.size : Int)
                      ·rw [if_pos c37] at H
                       have c37b0 := eq_true c37
                       have c37b1 : decide ((ji27) ≤ (x7_5.size : Int)) = true := decide_eq_true c37
                       clear c37
                       have H' := Aside0.mk H
                       clear H
                       have p30 : 0 ≤ ((ji27) : Int) := of_decide_eq_true (by first | (with_reducible assumption) | assumption)
                       have q30 : (ji27) < (x7_5.size : Int) := of_decide_eq_true (by first | (with_reducible assumption) | assumption)
                       have hx30 := bt_at x7_5 (ji27)
                       replace p30 := eq_true p30
                       replace q30 := eq_true q30
                       have p34 : 0 ≤ ((ji27) : Int) := of_decide_eq_true (by first | (with_reducible assumption) | assumption)
                       have q34 : (ji27) < (x7_5.size : Int) := of_decide_eq_true (by first | (with_reducible assumption) | assumption)
                       have hx34 := bt_at x7_5 (ji27)
                       replace p34 := eq_true p34
                       replace q34 := eq_true q34
                       go_wp2
                       go_roundg k5
                       case measure => have := HK1.out; have := HJ2.out; have := HK3.out; have := HJ16.out; have := HK5.out; omega
                       case rel => exact ⟨(x7_5.extract 0 ((ji27) : Int).toNat), (by first | rfl | (simp; done) | (simp only [← hji27] <;> (first | rfl | simp)) | (simp [*]; done)), H', ⟨by have := HK1.out; have := HJ2.out; have := HK3.out; have := HJ16.out; have := HK5.out; omega⟩, ⟨by (with_reducible repeat (first | apply Kd.R_alloc | apply Kd.R_drewN | apply Kd.R_drew)); exact HO_3.out⟩, ⟨by repeat (first | (with_reducible first | exact HB.out | apply below_alloc | apply pw_below_drewN | apply below_drew1) | exact HB.out)⟩⟩
                      ·rw [if_neg c37] at H
                       exact absurd H (by simp)
                     ·rw [if_neg c35] at H
                      have c35b0 : ((bt x7_5 (ji27)) == 9) = false := beq_eq_false_iff_ne.mpr c35
                      have c35b1 : ((bt x7_5 (ji27)) != 9) = true := bne_iff_ne.mpr c35
                      by_cases c38 : x3_1.length < 5864062014805
                      ·rw [if_pos c38] at H
                       have LMc38 := Aside0.mk c38
                       clear c38
                       obtain ⟨y171, hy171⟩ : ∃ y_ : List (S30), y_ = (x3_1 ++ [(⟨(wrap64 (x5_1 + 1)), x7_5⟩ : S30)]) := ⟨_, rfl⟩
                       replace H : (brazierref5_Lines.l0 k5 a0 y171 (wrap64 (x6_1 + 1)) (wrap64 (x5_1 + 1)) (wrap64 (x6_1 + 1))) = some r := by first | (rw [hy171]; with_reducible exact H) | (have H2_ := (Option.bind_some _ _).symm.trans H; rw [hy171]; with_reducible exact H2_) | (have H2_ := (Option.bind_some _ _).symm.trans H; with_reducible exact H2_) | with_reducible exact H | (rw [hy171]; exact H) | exact H
                       have Ny171 := Aside0.mk hy171
                       clear hy171
                       have H' := Aside0.mk H
                       clear H
                       have p30 : 0 ≤ ((ji27) : Int) := of_decide_eq_true (by first | (with_reducible assumption) | assumption)
                       have q30 : (ji27) < (x7_5.size : Int) := of_decide_eq_true (by first | (with_reducible assumption) | assumption)
                       have hx30 := bt_at x7_5 (ji27)
                       replace p30 := eq_true p30
                       replace q30 := eq_true q30
                       have p34 : 0 ≤ ((ji27) : Int) := of_decide_eq_true (by first | (with_reducible assumption) | assumption)
                       have q34 : (ji27) < (x7_5.size : Int) := of_decide_eq_true (by first | (with_reducible assumption) | assumption)
                       have hx34 := bt_at x7_5 (ji27)
                       replace p34 := eq_true p34
                       replace q34 := eq_true q34
                       go_wp2_with (first | ((with_reducible refine gate_builtin (b := .append) (xs := #[.tmp 85, .tmp 89]) rfl ?_); (try (refine gate_guard (by rfl) ?_; dsimp only)); at_builtin; refine Kd.R_append k30 (w0 := w) w.heap.size rfl (.tmp 85) (.tmp 89) 24 30 (.agg #[(.int .i64 0), (.string ⟨#[]⟩)]) 24 rfl Tryz.underlying24 info30 rfl (by decide) (by omega) u3 x3_1 (⟨(wrap64 (x5_1 + 1)), x7_5⟩ : S30) [.int .i64 (wrap64 (x5_1 + 1)), .string x7_5] (fun _ => True) (fun _ => False) rfl rfl ?aP (fun _ hk => hk.elim) ?aF ?aO ?aB ?aS ?aL ?_; (case aP => exact k30_mkM _ _ _ (⟨(wrap64 (x5_1 + 1)), x7_5⟩ : S30)); (case aB => exact (by repeat (first | (with_reducible first | exact HB.out | apply below_alloc | apply pw_below_drewN | apply below_drew1) | exact HB.out))); (case aF => exact (fun _ _ => trivial)); (case aO => exact (by (with_reducible repeat (first | apply Kd.R_alloc | apply Kd.R_drewN | apply Kd.R_drew)); exact HO_3.out)); (case aS => exact (below_size (by repeat (first | (with_reducible first | exact HB.out | apply below_alloc | apply pw_below_drewN | apply below_drew1) | exact HB.out)))); (case aL => have := LMc38.out; omega); intro v172 w39 ho hb hg hat; rw [← Ny171.out] at ho; have n0_ := Aside0.mk (hb); have n1_ := Aside0.mk (ho); clear HB; clear HO_3; have HB := n0_; have HO173 := n1_; clear n0_ n1_; clear ho hb hg hat))
                       go_roundg k5
                       case measure => have := HK1.out; have := HJ2.out; have := HK3.out; have := HJ16.out; have := HK5.out; omega
                       case rel => exact ⟨(y171), ((wrap64 (x6_1 + 1))), ((wrap64 (x5_1 + 1))), (wrap64 (x6_1 + 1)), (by first | rfl | (simp; done) | (simp [*]; done)), (by first | rfl | (simp; done) | (simp [*]; done)), (by first | rfl | (simp; done) | (simp [*]; done)), H', ⟨by have := HK1.out; have := HJ2.out; have := HK3.out; have := HJ16.out; have := HK5.out; omega⟩, ⟨by (with_reducible repeat (first | apply Kd.R_alloc | apply Kd.R_drewN | apply Kd.R_drew)); exact HO173.out⟩, ⟨by repeat (first | (with_reducible first | exact HB.out | apply below_alloc | apply pw_below_drewN | apply below_drew1) | exact HB.out)⟩⟩
                      ·rw [if_neg c38] at H
                       exact absurd H (by simp)
                   ·rw [if_neg c29] at H
                    exact absurd H (by simp)
                  ·rw [if_neg c28] at H
                   exact absurd H (by simp)
         ·rw [if_neg c10] at H
          exact absurd H (by simp)
        ·rw [if_neg c9] at H
         exact absurd H (by simp)
       ·rw [if_neg c8] at H
        exact absurd H (by simp)
   ·rw [if_neg c2] at H
    have c2b0 : decide (x6_1 ≤ (a0.size : Int)) = false := decide_eq_false c2
    clear c2
    obtain rfl := Option.some.inj H
    go_wp2
    go_ret
    exact ⟨_, by first | rfl | (simp [errW_none, errW_some] <;> rfl) | (simp [*, errW_none, errW_some] <;> rfl), by (with_reducible repeat (first | apply Kd.R_alloc | apply Kd.R_drewN | apply Kd.R_drew)); exact HO_3.out, by repeat (first | (with_reducible first | exact HB.out | apply below_alloc | apply pw_below_drewN | apply below_drew1) | exact HB.out)⟩
end Go.Proofs.YtkphijabhoppnaaGreatDoor.PTextPrograms
