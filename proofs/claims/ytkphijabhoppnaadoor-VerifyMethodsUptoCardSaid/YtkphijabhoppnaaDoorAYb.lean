/- The reference's question whether operands name something, whichever it is (brazierref15.named). -/
import Derived.Test.YtkphijabhoppnaaDoorAYa
import Derived.Test.YtkphijabhoppnaaDoorAYz
import Derived.Deep.QuietTactic
namespace Go.Proofs.YtkphijabhoppnaaDoor
open Go.RowKit Go.Proofs.YtkphijabhoppnaaDoorW.PrintWords
set_option linter.unusedSimpArgs false
set_option linter.unusedVariables false
theorem field_in (p : Pg) (a b : Int) : (fieldS p a b).2.2 = (inS a p.classes.length && inS b (PVerifyMethods.rd_L4 p.classes a).length) := by
  unfold fieldS
  split
  · rename_i h
    show false = _
    symm
    rw [Bool.and_eq_false_iff]
    by_cases h1 : a < 0 ∨ (p.classes.length : Int) ≤ a
    · exact .inl (inS_false h1)
    · exact .inr (inS_false (by omega))
  · rename_i h
    show true = _
    rw [inS_true (by omega) (by omega), inS_true (by omega) (by omega)]
    rfl
section
variable {w : World} {A0 A1 A2 : Option Addr} {c0 c1 c2 : Nat} {p : Pg}
theorem in_quiet (a : Int) (n : Nat) (r : Bool) (h : inS a n = r) (V : World) (kk : Nat) : Calls Tryd.prog 99 #[.int .i64 a, .int .i64 n] (V.drewN kk) fun e w' => e = .returned (.bool r) ∧ ∃ m, w' = (V.drewN kk).drewN m := by
  subst h
  exact in_calls a n _
set_option maxRecDepth 100000 in
set_option maxHeartbeats 1600000 in
theorem rnamed_field0 (k : Nat) (c a b o : Int) (h : c = 30 ∨ c = 31) (hin : inS a p.classes.length = false) :
    Calls Tryd.prog 100 #[.agg #[.slice A0 p.pool.length c0, .slice A1 p.classes.length c1, .slice A2 p.methods.length c2], .int .i64 k, .agg #[.int .i64 c, .int .i64 a, .int .i64 b, .int .i64 o]] w fun e w' => e = .returned (.bool false) ∧ Below w.heap.size w w' := by
  have hB : Below w.heap.size w ((w.alloc (obP A0 c0 A1 c1 A2 c2 p)).alloc (.cells #[.int .i64 c, .int .i64 a, .int .i64 b, .int .i64 o] 29)) := ((Below.refl _ w).alloc (Nat.le_refl _) _).alloc (by simp) _
  have hI := in_quiet a p.classes.length false hin ((w.alloc (obP A0 c0 A1 c1 A2 c2 p)).alloc (.cells #[.int .i64 c, .int .i64 a, .int .i64 b, .int .i64 o] 29))
  have HB := Lib.hid hB
  have HIn := Lib.hid hI
  clear hB hI hin
  rcases h with rfl | rfl
  all_goals
    go_enter Tryd.func100, Tryd.ntmps100
    go_upto_region 13 with fail
    go_quiet (first | (go_at_call 99; exact Calls.quiet_of (HIn.out _)))
    go_wp2_with fail
    go_ret
    exact ⟨rfl, below_drewN0 HB.out _⟩
set_option maxRecDepth 100000 in
set_option maxHeartbeats 1600000 in
theorem rnamed_other (k : Nat) (c a b o : Int) (h : c ≠ 1 ∧ c ≠ 4 ∧ c ≠ 5 ∧ c ≠ 27 ∧ c ≠ 29 ∧ c ≠ 30 ∧ c ≠ 31 ∧ c ≠ 32 ∧ c ≠ 33 ∧ c ≠ 34 ∧ c ≠ 38) :
    Calls Tryd.prog 100 #[.agg #[.slice A0 p.pool.length c0, .slice A1 p.classes.length c1, .slice A2 p.methods.length c2], .int .i64 k, .agg #[.int .i64 c, .int .i64 a, .int .i64 b, .int .i64 o]] w fun e w' => e = .returned (.bool true) ∧ Below w.heap.size w w' := by
  have hB : Below w.heap.size w ((w.alloc (obP A0 c0 A1 c1 A2 c2 p)).alloc (.cells #[.int .i64 c, .int .i64 a, .int .i64 b, .int .i64 o] 29)) := ((Below.refl _ w).alloc (Nat.le_refl _) _).alloc (by simp) _
  obtain ⟨h1, h4, h5, h27, h29, h30, h31, h32, h33, h34, h38⟩ := h
  have HB := Lib.hid hB
  have e1 : (c == 1) = false := by simpa using h1
  have e4 : (c == 4) = false := by simpa using h4
  have e5 : (c == 5) = false := by simpa using h5
  have e27 : (c == 27) = false := by simpa using h27
  have e29 : (c == 29) = false := by simpa using h29
  have e30 : (c == 30) = false := by simpa using h30
  have e31 : (c == 31) = false := by simpa using h31
  have e32 : (c == 32) = false := by simpa using h32
  have e33 : (c == 33) = false := by simpa using h33
  have e34 : (c == 34) = false := by simpa using h34
  have e38 : (c == 38) = false := by simpa using h38
  clear h1 h4 h5 h27 h29 h30 h31 h32 h33 h34 h38 hB
  go_enter Tryd.func100, Tryd.ntmps100
  go_wp2_with fail
  go_ret
  exact ⟨rfl, HB.out⟩
set_option maxRecDepth 100000 in
set_option maxHeartbeats 1600000 in
theorem rnamed_thr0 (k : Nat) (a b o : Int) (h : inS a p.methods.length = false) :
    Calls Tryd.prog 100 #[.agg #[.slice A0 p.pool.length c0, .slice A1 p.classes.length c1, .slice A2 p.methods.length c2], .int .i64 k, .agg #[.int .i64 38, .int .i64 a, .int .i64 b, .int .i64 o]] w fun e w' => e = .returned (.bool false) ∧ Below w.heap.size w w' := by
  have hB : Below w.heap.size w ((w.alloc (obP A0 c0 A1 c1 A2 c2 p)).alloc (.cells #[.int .i64 38, .int .i64 a, .int .i64 b, .int .i64 o] 29)) := ((Below.refl _ w).alloc (Nat.le_refl _) _).alloc (by simp) _
  have hI := in_callsB a p.methods.length ((w.alloc (obP A0 c0 A1 c1 A2 c2 p)).alloc (.cells #[.int .i64 38, .int .i64 a, .int .i64 b, .int .i64 o] 29))
  rw [h] at hI
  have HB := Lib.hid hB
  clear hB h
  go_enter Tryd.func100, Tryd.ntmps100
  go_wp2_with (first | (go_at_call 99; refine hI.mono ?_; rintro e w1 ⟨rfl, hb1⟩))
  go_ret
  exact ⟨rfl, HB.out.trans (hb1.mono HB.out.size)⟩
set_option maxRecDepth 100000 in
set_option maxHeartbeats 3200000 in
theorem rnamed_thr1 (hp : PgX w A0 c0 A1 c1 A2 c2 p) (k i : Nat) (b o : Int) (hi : i < p.methods.length) :
    Calls Tryd.prog 100 #[.agg #[.slice A0 p.pool.length c0, .slice A1 p.classes.length c1, .slice A2 p.methods.length c2], .int .i64 k, .agg #[.int .i64 38, .int .i64 i, .int .i64 b, .int .i64 o]] w fun e w' => e = .returned (.bool (decide ((methS p i).f0.length = 1 ∧ rd (methS p i).f0 0 = 2 ∧ (methS p i).f1 = 0))) ∧ Below w.heap.size w w' := by
  obtain ⟨ad, B0, d0, B2, d2, B4, d4, hM⟩ := mth_at hp i hi
  obtain ⟨m, hm⟩ : ∃ m, methS p i = m := ⟨_, rfl⟩
  rw [hm] at hM ⊢
  obtain rfl := hM.e
  have hI := in_callsB (i : Int) p.methods.length ((w.alloc (obP A0 c0 A1 c1 (some ad) c2 p)).alloc (.cells #[.int .i64 38, .int .i64 i, .int .i64 b, .int .i64 o] 29))
  rw [inS_true (by omega) (by omega)] at hI
  have hB : Below w.heap.size w ((w.alloc (obP A0 c0 A1 c1 (some ad) c2 p)).alloc (.cells #[.int .i64 38, .int .i64 i, .int .i64 b, .int .i64 o] 29)) := ((Below.refl _ w).alloc (Nat.le_refl _) _).alloc (by simp) _
  have r0 := row_alloc (heap_alloc_new w (obP A0 c0 A1 c1 (some ad) c2 p)) (.cells #[.int .i64 38, .int .i64 i, .int .i64 b, .int .i64 o] 29)
  have r1 := heap_alloc_new (w.alloc (obP A0 c0 A1 c1 (some ad) c2 p)) (.cells #[.int .i64 38, .int .i64 i, .int .i64 b, .int .i64 o] 29)
  simp only [World.size_alloc] at r1
  have i0 : (0 : Int) ≤ (i : Int) := by omega
  have i1 : (i : Int) < (p.methods.length : Int) := by omega
  obtain ⟨r, hr⟩ : ∃ r, decide (m.f0.length = 1 ∧ rd m.f0 0 = 2 ∧ m.f1 = 0) = r := ⟨_, rfl⟩
  rw [hr]
  have hx : ∀ h : m.f0.length = 1, ∃ bd, B0 = some bd ∧ w.cell? bd = some (.int .i64 (rd m.f0 0)) ∧ w.cell? (bd.add 0) = some (.int .i64 (rd m.f0 0)) := fun h => by
    obtain ⟨bd, e, hc⟩ := Kd.at_int hM.mt.r0 0 (by omega) (by omega)
    have hs := cell_spotV hc
    rw [Int.toNat_zero] at hc hs
    exact ⟨bd, e, by rwa [addr_add0 hs] at hc, hc⟩
  have HB := Lib.hid hB
  have HM := Lib.hid hM
  have R0 := Lib.hid r0
  have R1 := Lib.hid r1
  have HX := Lib.hid hx
  clear hB r0 r1 hp hM hx hm hi
  by_cases h1 : m.f0.length = 1
  · obtain ⟨bd, hbd, hx0, hx1⟩ := HX.out h1
    clear HX
    subst hbd
    have HX0 := Lib.hid hx0
    have HX1 := Lib.hid hx1
    clear hx0 hx1
    have t1 : ((m.f0.length : Int) == 1) = true := by rw [h1]; rfl
    have j1 : (0 : Int) < (m.f0.length : Int) := by omega
    by_cases h2 : rd m.f0 0 = 2
    · have t2 : (rd m.f0 0 == 2) = true := by simpa using h2
      have e : r = (m.f1 == 0) := by rw [← hr]; simp [h1, h2]; rfl
      obtain ⟨q, hq⟩ : ∃ q, (m.f1 == 0) = q := ⟨_, rfl⟩
      rw [hq] at e
      subst e
      clear h1 h2 hr
      go_enter Tryd.func100, Tryd.ntmps100
      go_wp2_with (first | (go_at_call 99; refine hI.mono ?_; rintro e w1 ⟨rfl, hb1⟩; obtain ⟨y0, y1, y2⟩ := cells3V (row_kept hb1 R0.out); obtain ⟨o0, o1, o2, o3⟩ := cellsV (row_kept hb1 R1.out); have hB1 := HB.out.trans (hb1.mono HB.out.size); have m0 := cell_be hB1 HM.out.m0; have m1 := cell_be hB1 HM.out.m1; have m2 := cell_be hB1 HM.out.m2; have m3 := cell_be hB1 HM.out.m3; have m4 := cell_be hB1 HM.out.m4; have x0 := cell_be hB1 HX0.out; have x1 := cell_be hB1 HX1.out; have x2 := cell_al x0 (obM (some bd) d0 B2 d2 B4 d4 m); have x3 := cell_al x1 (obM (some bd) d0 B2 d2 B4 d4 m); have B1 := Lib.hid hB1; clear hb1 hB1))
      go_ret
      refine ⟨?_, B1.out.alloc B1.out.size _⟩
      first | rfl | (rw [← hq]; rfl)
    · have t2 : (rd m.f0 0 == 2) = false := by simpa using h2
      have e : r = false := by rw [← hr]; simp [h2]
      subst e
      clear h1 h2 hr
      go_enter Tryd.func100, Tryd.ntmps100
      go_wp2_with (first | (go_at_call 99; refine hI.mono ?_; rintro e w1 ⟨rfl, hb1⟩; obtain ⟨y0, y1, y2⟩ := cells3V (row_kept hb1 R0.out); obtain ⟨o0, o1, o2, o3⟩ := cellsV (row_kept hb1 R1.out); have hB1 := HB.out.trans (hb1.mono HB.out.size); have m0 := cell_be hB1 HM.out.m0; have m1 := cell_be hB1 HM.out.m1; have m2 := cell_be hB1 HM.out.m2; have m3 := cell_be hB1 HM.out.m3; have m4 := cell_be hB1 HM.out.m4; have x0 := cell_be hB1 HX0.out; have x1 := cell_be hB1 HX1.out; have x2 := cell_al x0 (obM (some bd) d0 B2 d2 B4 d4 m); have x3 := cell_al x1 (obM (some bd) d0 B2 d2 B4 d4 m); have B1 := Lib.hid hB1; clear hb1 hB1))
      go_ret
      exact ⟨rfl, B1.out.alloc B1.out.size _⟩
  · have t1 : ((m.f0.length : Int) == 1) = false := by rw [beq_eq_false_iff_ne]; omega
    have e : r = false := by rw [← hr]; simp [h1]
    subst e
    clear h1 hr HX
    go_enter Tryd.func100, Tryd.ntmps100
    go_wp2_with (first | (go_at_call 99; refine hI.mono ?_; rintro e w1 ⟨rfl, hb1⟩; obtain ⟨y0, y1, y2⟩ := cells3V (row_kept hb1 R0.out); obtain ⟨o0, o1, o2, o3⟩ := cellsV (row_kept hb1 R1.out); have hB1 := HB.out.trans (hb1.mono HB.out.size); have m0 := cell_be hB1 HM.out.m0; have m1 := cell_be hB1 HM.out.m1; have m2 := cell_be hB1 HM.out.m2; have m3 := cell_be hB1 HM.out.m3; have m4 := cell_be hB1 HM.out.m4; have B1 := Lib.hid hB1; clear hb1 hB1))
    go_ret
    exact ⟨rfl, B1.out.alloc B1.out.size _⟩
theorem rnamed_calls (hp : PgX w A0 c0 A1 c1 A2 c2 p) (k : Nat) (hk : k < p.methods.length) (hl : (methS p k).f0.length ≤ 1000000 ∧ (methS p k).f2.length ≤ 1000000) (c a b o : Int) :
    Calls Tryd.prog 100 #[.agg #[.slice A0 p.pool.length c0, .slice A1 p.classes.length c1, .slice A2 p.methods.length c2], .int .i64 k, .agg #[.int .i64 c, .int .i64 a, .int .i64 b, .int .i64 o]] w fun e w' => e = .returned (.bool (namedS p (methS p k) c a b)) ∧ Below w.heap.size w w' := by
  unfold namedS
  by_cases h1 : c = 1
  · rw [if_pos h1]; exact rnamed_one k c a b o _ (.inl ⟨h1, rfl⟩)
  · rw [if_neg h1]
    by_cases h4 : c = 4 ∨ c = 5
    · rw [if_pos h4]; exact rnamed_local hp k hk hl c a b o h4
    · rw [if_neg h4]
      by_cases h27 : c = 27
      · rw [if_pos h27]; exact rnamed_one k c a b o _ (.inr (.inl ⟨h27, rfl⟩))
      · rw [if_neg h27]
        by_cases h29 : c = 29
        · rw [if_pos h29]; exact rnamed_one k c a b o _ (.inr (.inr ⟨h29, rfl⟩))
        · rw [if_neg h29]
          by_cases h30 : c = 30 ∨ c = 31
          · rw [if_pos h30, field_in]
            by_cases hin : 0 ≤ a ∧ a < (p.classes.length : Int)
            · rw [inS_true hin.1 hin.2, Bool.true_and]
              exact rnamed_field1 hp k c a b o h30 hin.1 hin.2 _ rfl
            · have e := inS_false (a := a) (n := p.classes.length) (by omega)
              rw [e, Bool.false_and]
              exact rnamed_field0 k c a b o h30 e
          · rw [if_neg h30]
            by_cases h32 : c = 32 ∨ c = 33 ∨ c = 34
            · rw [if_pos h32]; exact rnamed_kind k c a b o h32
            · rw [if_neg h32]
              by_cases h38 : c = 38
              · rw [if_pos h38]
                subst h38
                unfold threadS
                by_cases hin : 0 ≤ a ∧ a < (p.methods.length : Int)
                · obtain ⟨i, rfl⟩ : ∃ i : Nat, a = i := ⟨a.toNat, by omega⟩
                  have e : decide (0 ≤ (i : Int) ∧ (i : Int) < (p.methods.length : Int) ∧ (methS p i).f0.length = 1 ∧ rd (methS p i).f0 0 = 2 ∧ (methS p i).f1 = 0) = decide ((methS p i).f0.length = 1 ∧ rd (methS p i).f0 0 = 2 ∧ (methS p i).f1 = 0) := by
                    rw [decide_eq_decide]
                    exact ⟨fun h => h.2.2, fun h => ⟨hin.1, hin.2, h⟩⟩
                  rw [e]
                  exact rnamed_thr1 hp k i b o (by omega)
                · have e := inS_false (a := a) (n := p.methods.length) (by omega)
                  rw [show decide (0 ≤ a ∧ a < (p.methods.length : Int) ∧ (methS p a).f0.length = 1 ∧ rd (methS p a).f0 0 = 2 ∧ (methS p a).f1 = 0) = false from decide_eq_false fun h => hin ⟨h.1, h.2.1⟩]
                  exact rnamed_thr0 k a b o e
              · rw [if_neg h38]
                exact rnamed_other k c a b o (by omega)
end
end Go.Proofs.YtkphijabhoppnaaDoor
