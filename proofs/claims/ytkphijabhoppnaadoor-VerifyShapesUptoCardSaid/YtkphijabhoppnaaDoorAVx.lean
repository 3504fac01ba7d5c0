/- The shape behind a bytecode whose operands name something (brazier/verify.Effect). -/
import Derived.Test.YtkphijabhoppnaaDoorAVw
import Derived.Deep.RegionHeld3
import Derived.Deep.DeepCutAuto
namespace Go.Proofs.YtkphijabhoppnaaDoor
open Go.RowKit Go.Proofs.YtkphijabhoppnaaDoorW.PrintWords
set_option linter.unusedSimpArgs false
set_option linter.unusedVariables false
theorem name_ne : ∀ c : Nat, c < 41 → (ByteArray.mk (nameC c).toArray).toList.isEmpty = false := by decide +kernel
theorem results36 {tmps : Array Value} {W : World} {g : Nat} {fr : Nat × Nat} {v : Value} {h e : Int} (h8 : tmps.getD 8 undef = .pointer (some ⟨g, 0, none⟩)) (h9 : tmps.getD 9 undef = .int .i64 e) (hv : v.oneCell' = true)
    (hrow : W.heap[g]? = some (.cells #[v, .int .i64 h] 81 fr)) : (results Tryd.f36 tmps).run Tryd.prog W = .ok (.tuple #[.agg #[v, .int .i64 h], .int .i64 e]) W := by
  rw [results_cell_tmp (fn := Tryd.f36) rfl, h8, h9]
  simp only [asAddr, Sem.run_pure, Result.andThen_ok, run_loadVar_row W g 81 81 _ fr _ hrow Tryd.underlying81 rfl (by kernel_rfl)]
section
variable {w : World} {A0 A1 A2 S0 : Option Addr} {c0 c1 c2 sc : Nat} {p : Pg}
set_option maxRecDepth 100000 in
set_option maxHeartbeats 3200000 in
theorem Effect_calls (hp : PgX w A0 c0 A1 c1 A2 c2 p) (hG : Glob w) (hf : FewPar p) (k : Nat) (hk : k < p.methods.length) (c a b o : Int) (s : Shp) (hc0 : 0 ≤ c) (hc1 : c ≤ 40) (hn : namedS p (methS p k) c a b = true) (ha : I64 a)
    (h0 : 0 ≤ s.2) (h10 : s.2 ≤ 10) (hs : Kd.C (Kd.int .i64) w S0 s.1.length s.1) (hsc : s.1.length ≤ sc) (hl : s.1.length ≤ 100000) :
    Calls Tryd.prog 36 #[.agg #[.slice A0 p.pool.length c0, .slice A1 p.classes.length c1, .slice A2 p.methods.length c2], .int .i64 k, .agg #[.int .i64 c, .int .i64 a, .int .i64 b, .int .i64 o], .agg #[.slice S0 s.1.length sc, .int .i64 s.2]] w (EffPost w (effectS p (methS p k) c a b s)) := by
  obtain ⟨ad, B0, d0, B2, d2, B4, d4, hM⟩ := mth_at hp k hk
  have hnm : (ByteArray.mk (nameC c).toArray).toList.isEmpty = false := by
    obtain ⟨q, rfl⟩ : ∃ q : Nat, c = q := ⟨c.toNat, by omega⟩
    exact name_ne q (by omega)
  obtain ⟨nm, hnme⟩ : ∃ nm, ByteArray.mk (nameC c).toArray = nm := ⟨_, rfl⟩
  have hN : ∀ V, Below w.heap.size w V → Calls Tryd.prog 25 #[.int .i64 c] V fun e w' => e = .returned (.string nm) ∧ Below V.heap.size V w' := fun V h => hnme ▸ name_calls c V (hG.below h)
  rw [hnme] at hnm
  have hD : ∀ V, Below w.heap.size w V → Calls Tryd.prog 59 #[.agg #[.slice A0 p.pool.length c0, .slice A1 p.classes.length c1, .slice A2 p.methods.length c2], .agg #[.slice B0 (methS p k).f0.length d0, .int .i64 (methS p k).f1, .slice B2 (methS p k).f2.length d2, .int .i64 (methS p k).f3, .slice B4 (methS p k).f4.length d4], .agg #[.int .i64 c, .int .i64 a, .int .i64 b, .int .i64 o]] V fun e w' => e = .returned (.bool true) ∧ Below V.heap.size V w' := fun V h => by
    have := named_calls c a b o (hp.pg.below h) (hM.mt.below h) ha
    rwa [hn] at this
  have hE : ∀ V, Below w.heap.size w V → Calls Tryd.prog 60 #[.agg #[.slice A0 p.pool.length c0, .slice A1 p.classes.length c1, .slice A2 p.methods.length c2], .agg #[.slice B0 (methS p k).f0.length d0, .int .i64 (methS p k).f1, .slice B2 (methS p k).f2.length d2, .int .i64 (methS p k).f3, .slice B4 (methS p k).f4.length d4], .agg #[.int .i64 c, .int .i64 a, .int .i64 b, .int .i64 o], .agg #[.slice S0 s.1.length sc, .int .i64 s.2]] V (EffPost V (effectS p (methS p k) c a b s)) := fun V h =>
    effect_calls c a b o s hc0 hc1 hn (hp.pg.below h) (hM.mt.below h) ha hf h0 h10 (Kd.C_below hs h) hsc hl
  obtain ⟨m, hm⟩ : ∃ m, methS p k = m := ⟨_, rfl⟩
  rw [hm] at hM hD hE ⊢
  obtain ⟨f, hfe⟩ : ∃ f, effectS p m c a b s = f := ⟨_, rfl⟩
  rw [hfe] at hE ⊢
  obtain ⟨sl, sh⟩ := s
  dsimp only at hE ⊢
  obtain rfl := hM.e
  have i0 : (0 : Int) ≤ (k : Int) := by omega
  have i1 : (k : Int) < (p.methods.length : Int) := by omega
  have u1 : decide ((p.methods.length : Int) ≤ (k : Int)) = false := decide_eq_false (by omega)
  have u3 : decide (p.methods.length ≤ k) = false := decide_eq_false (by omega)
  have u4 : ¬ (p.methods.length ≤ k) := by omega
  have u2 : decide ((k : Int) < 0) = false := decide_eq_false (by omega)
  have HM := Lib.hid hM
  have HN := Lib.hid hN
  have HD := Lib.hid hD
  have HE := Lib.hid hE
  clear hp hG hf hk hn ha h0 h10 hs hsc hl hM hN hD hE hfe hm hnme hc0 hc1
  go_enter Tryd.func36, Tryd.ntmps36
  go_upto_region 1 with fail
  have r0 := row_alloc (row_alloc (row_alloc (heap_alloc_new w (obP A0 c0 A1 c1 (some ad) c2 p)) (obO c a b o)) (.cells #[.slice S0 sl.length sc, .int .i64 sh] 81)) (.cells #[.slice none 0 0, .int .i64 0] 81)
  have r1 := row_alloc (row_alloc (heap_alloc_new (w.alloc (obP A0 c0 A1 c1 (some ad) c2 p)) (obO c a b o)) (.cells #[.slice S0 sl.length sc, .int .i64 sh] 81)) (.cells #[.slice none 0 0, .int .i64 0] 81)
  have r2 := row_alloc (heap_alloc_new ((w.alloc (obP A0 c0 A1 c1 (some ad) c2 p)).alloc (obO c a b o)) (.cells #[.slice S0 sl.length sc, .int .i64 sh] 81)) (.cells #[.slice none 0 0, .int .i64 0] 81)
  have r3 := heap_alloc_new (((w.alloc (obP A0 c0 A1 c1 (some ad) c2 p)).alloc (obO c a b o)).alloc (.cells #[.slice S0 sl.length sc, .int .i64 sh] 81)) (.cells #[.slice none 0 0, .int .i64 0] 81)
  simp only [World.size_alloc] at r1 r2 r3
  have hB0 : Below w.heap.size w ((((w.alloc (obP A0 c0 A1 c1 (some ad) c2 p)).alloc (obO c a b o)).alloc (.cells #[.slice S0 sl.length sc, .int .i64 sh] 81)).alloc (.cells #[.slice none 0 0, .int .i64 0] 81)) := ((((Below.refl _ w).alloc (Nat.le_refl _) _).alloc (by simp) _).alloc (by simp; omega) _).alloc (by simp; omega) _
  obtain ⟨V, hV⟩ : ∃ V, (((w.alloc (obP A0 c0 A1 c1 (some ad) c2 p)).alloc (obO c a b o)).alloc (.cells #[.slice S0 sl.length sc, .int .i64 sh] 81)).alloc (.cells #[.slice none 0 0, .int .i64 0] 81) = V := ⟨_, rfl⟩
  have hs : V.heap.size = w.heap.size + 4 := by rw [← hV]; simp
  rw [hV] at r0 r1 r2 r3 hB0 ⊢
  clear hV
  obtain ⟨y0, y1, y2⟩ := cells3V r0
  obtain ⟨o0, o1, o2, o3⟩ := cellsV r1
  obtain ⟨s0, s1⟩ := cells2V r2
  have m0 := cell_be hB0 HM.out.m0
  have m1 := cell_be hB0 HM.out.m1
  have m2 := cell_be hB0 HM.out.m2
  have m3 := cell_be hB0 HM.out.m3
  have m4 := cell_be hB0 HM.out.m4
  have R0 := Lib.hid r0
  have R1 := Lib.hid r1
  have R2 := Lib.hid r2
  have R3 := Lib.hid r3
  have HS := Lib.hid hs
  have HB0 := Lib.hid hB0
  clear r0 r1 r2 r3 hs hB0
  (try simp only [Act.put, List.setIfInBounds_toArray, List.set_cons_zero, List.set_cons_succ])
  go_cut [35] from 10 (fun s Y => s = .bool false ∧ Below V.heap.size V Y)
  case first =>
    go_region_held3 (fun w' => w'.cell? ⟨w.heap.size, 0, none⟩ = some (.slice A0 p.pool.length c0) ∧ w'.cell? ⟨w.heap.size, 1, none⟩ = some (.slice A1 p.classes.length c1) ∧ w'.cell? ⟨w.heap.size, 2, none⟩ = some (.slice (some ad) p.methods.length c2) ∧ w'.cell? ⟨w.heap.size + 1, 0, none⟩ = some (.int .i64 c) ∧ w'.cell? ⟨w.heap.size + 1, 1, none⟩ = some (.int .i64 a) ∧ w'.cell? ⟨w.heap.size + 1, 2, none⟩ = some (.int .i64 b) ∧ w'.cell? ⟨w.heap.size + 1, 3, none⟩ = some (.int .i64 o) ∧ w'.cell? (ad.add (k * 5)) = some (.slice B0 m.f0.length d0) ∧ w'.cell? ⟨(ad.add (k * 5)).block, (ad.add (k * 5)).off + 1, none⟩ = some (.int .i64 m.f1) ∧ w'.cell? ⟨(ad.add (k * 5)).block, (ad.add (k * 5)).off + 2, none⟩ = some (.slice B2 m.f2.length d2) ∧ w'.cell? ⟨(ad.add (k * 5)).block, (ad.add (k * 5)).off + 3, none⟩ = some (.int .i64 m.f3) ∧ w'.cell? ⟨(ad.add (k * 5)).block, (ad.add (k * 5)).off + 4, none⟩ = some (.slice B4 m.f4.length d4))
      (first | go_keep | (exact ⟨cell_be hb3 y0, cell_be hb3 y1, cell_be hb3 y2, cell_be hb3 o0, cell_be hb3 o1, cell_be hb3 o2, cell_be hb3 o3, cell_be hb3 m0, cell_be hb3 m1, cell_be hb3 m2, cell_be hb3 m3, cell_be hb3 m4⟩) | (exact ⟨cell_be hb4 (cell_be hb3 y0), cell_be hb4 (cell_be hb3 y1), cell_be hb4 (cell_be hb3 y2), cell_be hb4 (cell_be hb3 o0), cell_be hb4 (cell_be hb3 o1), cell_be hb4 (cell_be hb3 o2), cell_be hb4 (cell_be hb3 o3), cell_be hb4 (cell_be hb3 m0), cell_be hb4 (cell_be hb3 m1), cell_be hb4 (cell_be hb3 m2), cell_be hb4 (cell_be hb3 m3), cell_be hb4 (cell_be hb3 m4)⟩))
      (first | (go_at_call 25; refine (HN.out _ HB0.out.drew).mono ?_; rintro e w3 ⟨rfl, hb3⟩) | (go_at_call 59; refine (HD.out _ (HB0.out.drew.trans (hb3.mono HB0.out.size))).mono ?_; rintro e w4 ⟨rfl, hb4⟩))
    all_goals
      go_wp2_with fail
      go_meet
      case rel => exact ⟨rfl, (Below.refl _ V).drew.trans ((hb3.trans (hb4.mono hb3.size)))⟩
  case rest =>
    obtain ⟨rfl, hbY⟩ := hcut
    have hs := HS.out
    have hbl : (ad.add (k * 5)).block < w.heap.size := block_lt_of_cell HM.out.m0
    have n0 : w.heap.size ≠ w.heap.size + 1 + 1 + 1 := by omega
    have n1 : w.heap.size + 1 ≠ w.heap.size + 1 + 1 + 1 := by omega
    have n2 : w.heap.size + 1 + 1 ≠ w.heap.size + 1 + 1 + 1 := by omega
    have n3 : (ad.add (k * 5)).block ≠ w.heap.size + 1 + 1 + 1 := by omega
    have R4 := Lib.hid (row_kept hbY R3.out)
    obtain ⟨y0, y1, y2⟩ := cells3V (row_kept hbY R0.out)
    obtain ⟨o0, o1, o2, o3⟩ := cellsV (row_kept hbY R1.out)
    obtain ⟨s0, s1⟩ := cells2V (row_kept hbY R2.out)
    have m0 := cell_be hbY m0
    have m1 := cell_be hbY m1
    have m2 := cell_be hbY m2
    have m3 := cell_be hbY m3
    have m4 := cell_be hbY m4
    have HY := Lib.hid (HB0.out.trans (hbY.mono HB0.out.size))
    clear hbY hs hbl
    go_upto_region 3 with fail
    go_cut [9] from 36 (fun s Y => s = .int .i64 f.2 ∧ ∃ v, v.oneCell' = true ∧ Y.heap[w.heap.size + 1 + 1 + 1]? = some (.cells #[v, .int .i64 f.1.2] 81 (0, 0)) ∧ Y.ownsRow w.heap.size 3 1 v f.1.1.length (nums .i64 f.1.1) ∧ Below w.heap.size w Y)
    case first =>
      go_region_held3 (fun w' => w'.cell? ⟨w.heap.size, 0, none⟩ = some (.slice A0 p.pool.length c0) ∧ w'.cell? ⟨w.heap.size, 1, none⟩ = some (.slice A1 p.classes.length c1) ∧ w'.cell? ⟨w.heap.size, 2, none⟩ = some (.slice (some ad) p.methods.length c2) ∧ w'.cell? ⟨w.heap.size + 1, 0, none⟩ = some (.int .i64 c) ∧ w'.cell? ⟨w.heap.size + 1, 1, none⟩ = some (.int .i64 a) ∧ w'.cell? ⟨w.heap.size + 1, 2, none⟩ = some (.int .i64 b) ∧ w'.cell? ⟨w.heap.size + 1, 3, none⟩ = some (.int .i64 o) ∧ w'.cell? ⟨w.heap.size + 1 + 1, 0, none⟩ = some (.slice S0 sl.length sc) ∧ w'.cell? ⟨w.heap.size + 1 + 1, 1, none⟩ = some (.int .i64 sh) ∧ w'.cell? (ad.add (k * 5)) = some (.slice B0 m.f0.length d0) ∧ w'.cell? ⟨(ad.add (k * 5)).block, (ad.add (k * 5)).off + 1, none⟩ = some (.int .i64 m.f1) ∧ w'.cell? ⟨(ad.add (k * 5)).block, (ad.add (k * 5)).off + 2, none⟩ = some (.slice B2 m.f2.length d2) ∧ w'.cell? ⟨(ad.add (k * 5)).block, (ad.add (k * 5)).off + 3, none⟩ = some (.int .i64 m.f3) ∧ w'.cell? ⟨(ad.add (k * 5)).block, (ad.add (k * 5)).off + 4, none⟩ = some (.slice B4 m.f4.length d4))
        (first | (exact ⟨cell_be hb3 y0, cell_be hb3 y1, cell_be hb3 y2, cell_be hb3 o0, cell_be hb3 o1, cell_be hb3 o2, cell_be hb3 o3, cell_be hb3 s0, cell_be hb3 s1, cell_be hb3 m0, cell_be hb3 m1, cell_be hb3 m2, cell_be hb3 m3, cell_be hb3 m4⟩) | (exact ⟨(cell_far (a := ⟨w.heap.size, 0, none⟩) (p := ⟨w.heap.size + 1 + 1 + 1, 1, none⟩) n0 _).trans ((cell_far (a := ⟨w.heap.size, 0, none⟩) (p := ⟨w.heap.size + 1 + 1 + 1, 0, none⟩) n0 _).trans (cell_be hb3 y0)), (cell_far (a := ⟨w.heap.size, 1, none⟩) (p := ⟨w.heap.size + 1 + 1 + 1, 1, none⟩) n0 _).trans ((cell_far (a := ⟨w.heap.size, 1, none⟩) (p := ⟨w.heap.size + 1 + 1 + 1, 0, none⟩) n0 _).trans (cell_be hb3 y1)), (cell_far (a := ⟨w.heap.size, 2, none⟩) (p := ⟨w.heap.size + 1 + 1 + 1, 1, none⟩) n0 _).trans ((cell_far (a := ⟨w.heap.size, 2, none⟩) (p := ⟨w.heap.size + 1 + 1 + 1, 0, none⟩) n0 _).trans (cell_be hb3 y2)), (cell_far (a := ⟨w.heap.size + 1, 0, none⟩) (p := ⟨w.heap.size + 1 + 1 + 1, 1, none⟩) n1 _).trans ((cell_far (a := ⟨w.heap.size + 1, 0, none⟩) (p := ⟨w.heap.size + 1 + 1 + 1, 0, none⟩) n1 _).trans (cell_be hb3 o0)), (cell_far (a := ⟨w.heap.size + 1, 1, none⟩) (p := ⟨w.heap.size + 1 + 1 + 1, 1, none⟩) n1 _).trans ((cell_far (a := ⟨w.heap.size + 1, 1, none⟩) (p := ⟨w.heap.size + 1 + 1 + 1, 0, none⟩) n1 _).trans (cell_be hb3 o1)), (cell_far (a := ⟨w.heap.size + 1, 2, none⟩) (p := ⟨w.heap.size + 1 + 1 + 1, 1, none⟩) n1 _).trans ((cell_far (a := ⟨w.heap.size + 1, 2, none⟩) (p := ⟨w.heap.size + 1 + 1 + 1, 0, none⟩) n1 _).trans (cell_be hb3 o2)), (cell_far (a := ⟨w.heap.size + 1, 3, none⟩) (p := ⟨w.heap.size + 1 + 1 + 1, 1, none⟩) n1 _).trans ((cell_far (a := ⟨w.heap.size + 1, 3, none⟩) (p := ⟨w.heap.size + 1 + 1 + 1, 0, none⟩) n1 _).trans (cell_be hb3 o3)), (cell_far (a := ⟨w.heap.size + 1 + 1, 0, none⟩) (p := ⟨w.heap.size + 1 + 1 + 1, 1, none⟩) n2 _).trans ((cell_far (a := ⟨w.heap.size + 1 + 1, 0, none⟩) (p := ⟨w.heap.size + 1 + 1 + 1, 0, none⟩) n2 _).trans (cell_be hb3 s0)), (cell_far (a := ⟨w.heap.size + 1 + 1, 1, none⟩) (p := ⟨w.heap.size + 1 + 1 + 1, 1, none⟩) n2 _).trans ((cell_far (a := ⟨w.heap.size + 1 + 1, 1, none⟩) (p := ⟨w.heap.size + 1 + 1 + 1, 0, none⟩) n2 _).trans (cell_be hb3 s1)), (cell_far (a := ad.add (k * 5)) (p := ⟨w.heap.size + 1 + 1 + 1, 1, none⟩) n3 _).trans ((cell_far (a := ad.add (k * 5)) (p := ⟨w.heap.size + 1 + 1 + 1, 0, none⟩) n3 _).trans (cell_be hb3 m0)), (cell_far (a := ⟨(ad.add (k * 5)).block, (ad.add (k * 5)).off + 1, none⟩) (p := ⟨w.heap.size + 1 + 1 + 1, 1, none⟩) n3 _).trans ((cell_far (a := ⟨(ad.add (k * 5)).block, (ad.add (k * 5)).off + 1, none⟩) (p := ⟨w.heap.size + 1 + 1 + 1, 0, none⟩) n3 _).trans (cell_be hb3 m1)), (cell_far (a := ⟨(ad.add (k * 5)).block, (ad.add (k * 5)).off + 2, none⟩) (p := ⟨w.heap.size + 1 + 1 + 1, 1, none⟩) n3 _).trans ((cell_far (a := ⟨(ad.add (k * 5)).block, (ad.add (k * 5)).off + 2, none⟩) (p := ⟨w.heap.size + 1 + 1 + 1, 0, none⟩) n3 _).trans (cell_be hb3 m2)), (cell_far (a := ⟨(ad.add (k * 5)).block, (ad.add (k * 5)).off + 3, none⟩) (p := ⟨w.heap.size + 1 + 1 + 1, 1, none⟩) n3 _).trans ((cell_far (a := ⟨(ad.add (k * 5)).block, (ad.add (k * 5)).off + 3, none⟩) (p := ⟨w.heap.size + 1 + 1 + 1, 0, none⟩) n3 _).trans (cell_be hb3 m3)), (cell_far (a := ⟨(ad.add (k * 5)).block, (ad.add (k * 5)).off + 4, none⟩) (p := ⟨w.heap.size + 1 + 1 + 1, 1, none⟩) n3 _).trans ((cell_far (a := ⟨(ad.add (k * 5)).block, (ad.add (k * 5)).off + 4, none⟩) (p := ⟨w.heap.size + 1 + 1 + 1, 0, none⟩) n3 _).trans (cell_be hb3 m4))⟩) | go_keep)
        (first | (go_at_call 60; refine (HE.out _ HY.out.drew).mono ?_; rintro e w3 ⟨v3, rfl, ho3, hb3⟩; obtain ⟨A3, c3, rfl⟩ := own_slice ho3; have rzz := row_kept hb3 (row_drewV R4.out); obtain ⟨zz0, zz1⟩ := cells2V rzz; have ff0 := Lib.frozen_of_heap rzz 0; have ff1 := Lib.frozen_of_heap rzz 1))
      all_goals
        go_wp2_with fail
        go_meet
        case rel =>
          have hlt := (Array.getElem?_eq_some_iff.1 R4.out).1
          have hwY := HY.out.size
          exact ⟨rfl, _, rfl, set2V rzz _ _, row_base (own_set2 ho3 (show w.heap.size + 1 + 1 + 1 < wc.heap.size from hlt) _ _) hwY, below_set2 (HY.out.drew.trans (hb3.mono hwY)) (by omega) _ _⟩
    case rest =>
      obtain ⟨rfl, v, hv1, hrow, hown, hbZ⟩ := hcut
      go_wp2_with fail
      refine bodyPost_ret (results36 rfl rfl hv1 hrow) rfl ?_
      exact ⟨v, rfl, hown, hbZ⟩
end
end Go.Proofs.YtkphijabhoppnaaDoor
