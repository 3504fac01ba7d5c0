/- The reference's question whether operands name something (brazierref15.named). -/
import Derived.Test.YtkphijabhoppnaaDoorAPVerifyMethodsx10
import Derived.Test.YtkphijabhoppnaaDoorAVt
import Derived.BigQuiet
import Derived.Deep.RegionHeld3
import Derived.Deep.DeepCutAuto
namespace Go.Proofs.YtkphijabhoppnaaDoor
open Go.RowKit Go.Proofs.YtkphijabhoppnaaDoorW.PrintWords
set_option linter.unusedSimpArgs false
set_option linter.unusedVariables false
def inS (a : Int) (n : Nat) : Bool := decide (0 ≤ a ∧ a < (n : Int))
theorem in_calls (a : Int) (n : Nat) (w : World) : Calls Tryd.prog 99 #[.int .i64 a, .int .i64 n] w fun e w' => e = .returned (.bool (inS a n)) ∧ ∃ k, w' = w.drewN k := by
  refine (PVerifyMethods.brazierref15_in.calls a n (inS a n) w ?_).mono fun e w' h => ⟨h.1, h.2.out⟩
  unfold PVerifyMethods.brazierref15_in.f inS
  by_cases h : 0 ≤ a
  · rw [if_pos h]; congr 1; simp [h]
  · rw [if_neg h]; congr 1; simp [h]
theorem locals_calls {w : World} {B0 B2 B4 : Option Addr} {d0 d2 d4 : Nat} {m : Meth} (hm : MtC w B0 d0 B2 d2 B4 d4 m) (h0 : m.f0.length ≤ 1000000) (h2 : m.f2.length ≤ 1000000) :
    Calls Tryd.prog 137 #[.agg #[.slice B0 m.f0.length d0, .int .i64 m.f1, .slice B2 m.f2.length d2, .int .i64 m.f3, .slice B4 m.f4.length d4]] w fun e w' => ∃ A c, e = .returned (.slice A (m.f0 ++ m.f2).length c) ∧ (m.f0 ++ m.f2).length ≤ c ∧ Kd.C (Kd.int .i64) w' A (m.f0 ++ m.f2).length (m.f0 ++ m.f2) ∧ Below w.heap.size w w' := by
  refine (PVerifyMethods.brazierref15_locals.calls B0 d0 m.f0 m.f1 B2 d2 m.f2 m.f3 B4 d4 m.f4 (m.f0 ++ m.f2) w hm.r0 hm.h0 hm.r2 hm.h2 hm.r4 hm.h4 ?_).mono ?_
  · unfold PVerifyMethods.brazierref15_locals.f
    rw [Option.bind_some, if_pos (by simp; omega), Option.bind_some, if_pos (by simp; omega)]
    simp
  · rintro e w' ⟨v, rfl, hv, hb⟩
    obtain ⟨A, c, e', hle, hC⟩ := RI.of_own (Kd.own_of_R hv)
    exact ⟨A, c, by rw [e'], hle, hC, hb⟩
theorem local_in (m : Meth) (a : Int) : (localS m a).2 = inS a (m.f0 ++ m.f2).length := by
  unfold localS inS
  rw [List.length_append]
  by_cases h0 : a < 0
  · rw [if_pos h0]; symm; rw [decide_eq_false_iff_not]; omega
  · rw [if_neg h0]
    by_cases h1 : a < (m.f0.length : Int)
    · rw [if_pos h1]; symm; rw [decide_eq_true_eq]; omega
    · rw [if_neg h1]
      by_cases h2 : a - (m.f0.length : Int) < (m.f2.length : Int)
      · rw [if_pos h2]; symm; rw [decide_eq_true_eq]; omega
      · rw [if_neg h2]; symm; rw [decide_eq_false_iff_not]; omega
section
variable {w : World} {A0 A1 A2 : Option Addr} {c0 c1 c2 : Nat} {p : Pg}
set_option maxRecDepth 100000 in
set_option maxHeartbeats 1600000 in
theorem rnamed_one (k : Nat) (c a b o : Int) (n : Nat) (h : (c = 1 ∧ n = p.pool.length) ∨ (c = 27 ∧ n = p.methods.length) ∨ (c = 29 ∧ n = p.classes.length)) :
    Calls Tryd.prog 100 #[.agg #[.slice A0 p.pool.length c0, .slice A1 p.classes.length c1, .slice A2 p.methods.length c2], .int .i64 k, .agg #[.int .i64 c, .int .i64 a, .int .i64 b, .int .i64 o]] w fun e w' => e = .returned (.bool (inS a n)) ∧ Below w.heap.size w w' := by
  have hB : Below w.heap.size w ((w.alloc (obP A0 c0 A1 c1 A2 c2 p)).alloc (.cells #[.int .i64 c, .int .i64 a, .int .i64 b, .int .i64 o] 29)) := ((Below.refl _ w).alloc (Nat.le_refl _) _).alloc (by simp) _
  have hIn := in_calls a n ((w.alloc (obP A0 c0 A1 c1 A2 c2 p)).alloc (.cells #[.int .i64 c, .int .i64 a, .int .i64 b, .int .i64 o] 29))
  have HB := Lib.hid hB
  clear hB
  rcases h with ⟨rfl, rfl⟩ | ⟨rfl, rfl⟩ | ⟨rfl, rfl⟩
  all_goals
    go_enter Tryd.func100, Tryd.ntmps100
    go_wp2_with (first | (go_at_call 99; refine hIn.mono ?_; rintro e w1 ⟨rfl, kk, rfl⟩))
    go_ret
    exact ⟨rfl, below_drewN0 HB.out kk⟩
set_option maxRecDepth 100000 in
set_option maxHeartbeats 1600000 in
theorem rnamed_kind (k : Nat) (c a b o : Int) (h : c = 32 ∨ c = 33 ∨ c = 34) :
    Calls Tryd.prog 100 #[.agg #[.slice A0 p.pool.length c0, .slice A1 p.classes.length c1, .slice A2 p.methods.length c2], .int .i64 k, .agg #[.int .i64 c, .int .i64 a, .int .i64 b, .int .i64 o]] w fun e w' => e = .returned (.bool (decide (a = 1 ∨ a = 2))) ∧ Below w.heap.size w w' := by
  have hB : Below w.heap.size w ((w.alloc (obP A0 c0 A1 c1 A2 c2 p)).alloc (.cells #[.int .i64 c, .int .i64 a, .int .i64 b, .int .i64 o] 29)) := ((Below.refl _ w).alloc (Nat.le_refl _) _).alloc (by simp) _
  obtain ⟨r, hr⟩ : ∃ r, decide (a = 1 ∨ a = 2) = r := ⟨_, rfl⟩
  rw [hr]
  by_cases h1 : a = 1
  · have t1 : (a == 1) = true := by simp [h1]
    have e : r = true := by rw [← hr]; simp [h1]
    subst e
    clear hr h1
    rcases h with rfl | rfl | rfl
    all_goals
      go_enter Tryd.func100, Tryd.ntmps100
      go_wp2_with fail
      go_ret
      exact ⟨rfl, hB⟩
  · have t1 : (a == 1) = false := by simpa using h1
    obtain ⟨s, hs⟩ : ∃ s, (a == 2) = s := ⟨_, rfl⟩
    have e : r = s := by rw [← hr, ← hs]; simp [h1]; rfl
    subst e
    clear hr h1
    rcases h with rfl | rfl | rfl
    all_goals
      go_enter Tryd.func100, Tryd.ntmps100
      go_wp2_with fail
      go_ret
      exact ⟨by first | rfl | rw [← hs]; rfl, hB⟩
theorem in_callsB (a : Int) (n : Nat) (w : World) : Calls Tryd.prog 99 #[.int .i64 a, .int .i64 n] w fun e w' => e = .returned (.bool (inS a n)) ∧ Below w.heap.size w w' :=
  (in_calls a n w).mono fun e w' ⟨h, k, hk⟩ => ⟨h, by rw [hk]; exact below_drewN0 (Below.refl _ _) k⟩
set_option maxRecDepth 100000 in
set_option maxHeartbeats 1600000 in
theorem rnamed_local (hp : PgX w A0 c0 A1 c1 A2 c2 p) (k : Nat) (hk : k < p.methods.length) (hl : (methS p k).f0.length ≤ 1000000 ∧ (methS p k).f2.length ≤ 1000000) (c a b o : Int) (h : c = 4 ∨ c = 5) :
    Calls Tryd.prog 100 #[.agg #[.slice A0 p.pool.length c0, .slice A1 p.classes.length c1, .slice A2 p.methods.length c2], .int .i64 k, .agg #[.int .i64 c, .int .i64 a, .int .i64 b, .int .i64 o]] w fun e w' => e = .returned (.bool (localS (methS p k) a).2) ∧ Below w.heap.size w w' := by
  rw [local_in]
  obtain ⟨ad, B0, d0, B2, d2, B4, d4, hM⟩ := mth_at hp k hk
  obtain ⟨m, hm⟩ : ∃ m, methS p k = m := ⟨_, rfl⟩
  rw [hm] at hM hl ⊢
  obtain rfl := hM.e
  have hLoc : ∀ V, Below w.heap.size w V → Calls Tryd.prog 137 #[.agg #[.slice B0 m.f0.length d0, .int .i64 m.f1, .slice B2 m.f2.length d2, .int .i64 m.f3, .slice B4 m.f4.length d4]] V fun e w' => ∃ A c, e = .returned (.slice A (m.f0 ++ m.f2).length c) ∧ (m.f0 ++ m.f2).length ≤ c ∧ Kd.C (Kd.int .i64) w' A (m.f0 ++ m.f2).length (m.f0 ++ m.f2) ∧ Below V.heap.size V w' := fun V hV => locals_calls (hM.mt.below hV) hl.1 hl.2
  obtain ⟨N, hN⟩ : ∃ N, (m.f0 ++ m.f2).length = N := ⟨_, rfl⟩
  rw [hN] at hLoc ⊢
  obtain ⟨r, hr⟩ : ∃ r, inS a N = r := ⟨_, rfl⟩
  have hIn : ∀ V, Calls Tryd.prog 99 #[.int .i64 a, .int .i64 N] V fun e w' => e = .returned (.bool r) ∧ Below V.heap.size V w' := fun V => by
    have := in_callsB a N V
    rwa [hr] at this
  rw [hr]
  have r0 := row_alloc (heap_alloc_new w (obP A0 c0 A1 c1 (some ad) c2 p)) (.cells #[.int .i64 c, .int .i64 a, .int .i64 b, .int .i64 o] 29)
  have r1 := heap_alloc_new (w.alloc (obP A0 c0 A1 c1 (some ad) c2 p)) (.cells #[.int .i64 c, .int .i64 a, .int .i64 b, .int .i64 o] 29)
  simp only [World.size_alloc] at r1
  have hB : Below w.heap.size w ((w.alloc (obP A0 c0 A1 c1 (some ad) c2 p)).alloc (.cells #[.int .i64 c, .int .i64 a, .int .i64 b, .int .i64 o] 29)) := ((Below.refl _ w).alloc (Nat.le_refl _) _).alloc (by simp) _
  have i0 : (0 : Int) ≤ (k : Int) := by omega
  have i1 : (k : Int) < (p.methods.length : Int) := by omega
  have HM := Lib.hid hM
  have HLoc := Lib.hid hLoc
  have HIn := Lib.hid hIn
  have HB := Lib.hid hB
  have R0 := Lib.hid r0
  have R1 := Lib.hid r1
  clear hp hk hl hM hLoc hIn hB r0 r1 hm hr hN
  have main : ∀ cc : Int, cc = c → (cc = 4 ∨ cc = 5) → Calls Tryd.prog 100 #[.agg #[.slice A0 p.pool.length c0, .slice A1 p.classes.length c1, .slice (some ad) p.methods.length c2], .int .i64 k, .agg #[.int .i64 c, .int .i64 a, .int .i64 b, .int .i64 o]] w fun e w' => e = .returned (.bool r) ∧ Below w.heap.size w w' := by
    rintro cc rfl h
    rcases h with rfl | rfl
    all_goals
      go_enter Tryd.func100, Tryd.ntmps100
      go_upto_region 6 with fail
      first | (obtain ⟨V, hV⟩ : ∃ V, (w.alloc (obP A0 c0 A1 c1 (some ad) c2 p)).alloc (.cells #[.int .i64 4, .int .i64 a, .int .i64 b, .int .i64 o] 29) = V := ⟨_, rfl⟩; rw [hV] at HB R0 R1; simp only [hV]; clear hV) | (obtain ⟨V, hV⟩ : ∃ V, (w.alloc (obP A0 c0 A1 c1 (some ad) c2 p)).alloc (.cells #[.int .i64 5, .int .i64 a, .int .i64 b, .int .i64 o] 29) = V := ⟨_, rfl⟩; rw [hV] at HB R0 R1; simp only [hV]; clear hV)
      obtain ⟨y0, y1, y2⟩ := cells3V R0.out
      obtain ⟨o0, o1, o2, o3⟩ := cellsV R1.out
      have m0 := cell_be HB.out HM.out.m0
      have m1 := cell_be HB.out HM.out.m1
      have m2 := cell_be HB.out HM.out.m2
      have m3 := cell_be HB.out HM.out.m3
      have m4 := cell_be HB.out HM.out.m4
      (try simp only [Act.put, List.setIfInBounds_toArray, List.set_cons_zero, List.set_cons_succ])
      go_cut [6] from 111 (fun s Y => s = .bool r ∧ Below V.heap.size V Y)
      case first =>
        go_region_held3 (fun w' => w'.cell? ⟨w.heap.size, 2, none⟩ = some (.slice (some ad) p.methods.length c2) ∧ w'.cell? ⟨w.heap.size + 1, 1, none⟩ = some (.int .i64 a) ∧ w'.cell? (ad.add (k * 5)) = some (.slice B0 m.f0.length d0) ∧ w'.cell? ⟨(ad.add (k * 5)).block, (ad.add (k * 5)).off + 1, none⟩ = some (.int .i64 m.f1) ∧ w'.cell? ⟨(ad.add (k * 5)).block, (ad.add (k * 5)).off + 2, none⟩ = some (.slice B2 m.f2.length d2) ∧ w'.cell? ⟨(ad.add (k * 5)).block, (ad.add (k * 5)).off + 3, none⟩ = some (.int .i64 m.f3) ∧ w'.cell? ⟨(ad.add (k * 5)).block, (ad.add (k * 5)).off + 4, none⟩ = some (.slice B4 m.f4.length d4))
          (first | (exact ⟨y2, o1, m0, m1, m2, m3, m4⟩) | (exact ⟨cell_be hb3 y2, cell_be hb3 o1, cell_be hb3 m0, cell_be hb3 m1, cell_be hb3 m2, cell_be hb3 m3, cell_be hb3 m4⟩) | (exact ⟨cell_be hb4 (cell_be hb3 y2), cell_be hb4 (cell_be hb3 o1), cell_be hb4 (cell_be hb3 m0), cell_be hb4 (cell_be hb3 m1), cell_be hb4 (cell_be hb3 m2), cell_be hb4 (cell_be hb3 m3), cell_be hb4 (cell_be hb3 m4)⟩) | go_keep)
          (first | (go_at_call 137; refine (HLoc.out _ HB.out.drew).mono ?_; rintro e w3 ⟨A, cq, rfl, hle, hC, hb3⟩) | (go_at_call 99; refine (HIn.out _).mono ?_; rintro e w4 ⟨rfl, hb4⟩))
        all_goals
          go_wp2_with fail
          go_meet
          case rel => exact ⟨rfl, (Below.refl _ V).drew.trans (hb3.trans (hb4.mono hb3.size))⟩
      case rest =>
        obtain ⟨rfl, hbY⟩ := hcut
        go_wp2_with fail
        go_ret
        exact ⟨rfl, HB.out.trans (hbY.mono HB.out.size)⟩
  exact main c rfl h
end
end Go.Proofs.YtkphijabhoppnaaDoor
