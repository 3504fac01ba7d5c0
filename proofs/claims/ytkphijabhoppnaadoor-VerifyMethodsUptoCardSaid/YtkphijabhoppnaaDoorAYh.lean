/- A place is gone through, by the reference (brazierref15.State.through). -/
import Derived.Test.YtkphijabhoppnaaDoorAYe
import Derived.Test.YtkphijabhoppnaaDoorAYg
import Derived.Test.YtkphijabhoppnaaDoorAYr
import Derived.Deep.DeepCutAuto
namespace Go.Proofs.YtkphijabhoppnaaDoor
open Go.RowKit Go.Proofs.YtkphijabhoppnaaDoorW.PrintWords
set_option linter.unusedSimpArgs false
set_option linter.unusedVariables false
def Aft2 (X : World) (fs : List Int) (fh : Int) (T : Nat) (A3 : Option Addr) (c3 : Nat) (Y : World) : Prop :=
  Below X.heap.size X Y ∧ Y.heap[T]? = some (.cells #[.slice A3 fs.length c3, .int .i64 fh] 82 (0, 0)) ∧ Y.ownsRow X.heap.size 3 1 (.slice A3 fs.length c3) fs.length (nums .i64 fs) ∧ X.heap.size ≤ T
theorem own_fr {L : Loc} {n base : Nat} {Y Y2 : World} {sh : List Shp} {has gone : List Bool} {v : Value} {xs : List Int} (h : Y.ownsRow base 3 1 v xs.length (nums .i64 xs)) (hf : Fr L.gs L.gh Y Y2) (hY : StI L n base Y sh has gone) : Y2.ownsRow base 3 1 v xs.length (nums .i64 xs) :=
  own_move h fun k hk => by
    obtain ⟨cells, hc⟩ := own_typed h k hk
    refine (hf.2 k _ hc (fun e => ?_) (fun e => ?_)).trans hc.symm
    · obtain ⟨cs, hcs, -⟩ := hY.ss
      rw [e, hcs] at hc
      simp at hc
    · have h2 := hY.hh
      rw [e, h2] at hc
      simp [bools4] at hc
theorem aft_new {X Z : World} {fs : List Int} {fh : Int} {A3 : Option Addr} {c3 : Nat} (ho : Z.ownsRow X.heap.size 3 1 (.slice A3 fs.length c3) fs.length (nums .i64 fs)) (hb : Below X.heap.size X Z) : Aft2 X fs fh Z.heap.size A3 c3 (Z.alloc (.cells #[.slice A3 fs.length c3, .int .i64 fh] 82)) :=
  ⟨hb.alloc hb.size _, heap_alloc_new _ _, ho.alloc _, hb.size⟩
theorem aft_set {X Z : World} {g : Nat} {fs : List Int} {fh : Int} {A3 : Option Addr} {c3 : Nat} (hz : Z.heap[g]? = some obZ2) (hg : X.heap.size ≤ g) (ho : Z.ownsRow X.heap.size 3 1 (.slice A3 fs.length c3) fs.length (nums .i64 fs)) (hb : Below X.heap.size X Z) : Aft2 X fs fh g A3 c3 ((Z.setCell ⟨g, 0, none⟩ (.slice A3 fs.length c3)).setCell ⟨g, 1, none⟩ (.int .i64 fh)) :=
  ⟨below_set2 hb hg _ _, set2V hz _ _, own_other (own_other ho hz _ _) (set2a hz _) _ _, hg⟩
section
variable {L : Loc} {n : Nat} {w0 W : World} {sh : List Shp} {has gone : List Bool} {A0 A1 A2 : Option Addr} {c0 c1 c2 : Nat} {p : Pg}
set_option maxRecDepth 100000 in
set_option maxHeartbeats 6400000 in
theorem rthrough_calls (hp : PgX w0 A0 c0 A1 c1 A2 c2 p) (hfp : FewPar p) (k : Nat) (hk : k < p.methods.length) (hlm : (methS p k).f0.length ≤ 1000000 ∧ (methS p k).f2.length ≤ 1000000) (hn : n = (methS p k).f4.length)
    (hW : StI L n w0.heap.size W sh has gone) (hb : Below w0.heap.size w0 W) (i : Nat) (hg : Good p (methS p k) n i) (hh0 : 0 ≤ (sh.getD i ([], 0)).2) (hh1 : (sh.getD i ([], 0)).2 ≤ 10) (hlen : (sh.getD i ([], 0)).1.length ≤ 90000)
    (hflen : (effectS p (methS p k) (readAt (methS p k).f4 i).code (readAt (methS p k).f4 i).a (readAt (methS p k).f4 i).b (sh.getD i ([], 0))).1.1.length ≤ 100000)
    (hsz : (i : Int) + (readAt (methS p k).f4 i).size ≤ n) (hju : (readAt (methS p k).f4 i).code = 25 ∨ (readAt (methS p k).f4 i).code = 26 → (i : Int) + (readAt (methS p k).f4 i).a ≤ n) :
    Calls Tryd.prog 102 #[.pointer (some ⟨L.G, 0, none⟩), .agg #[.slice A0 p.pool.length c0, .slice A1 p.classes.length c1, .slice A2 p.methods.length c2], .int .i64 k, .int .i64 i] W (RtPost L n w0 W gone (throughS p (methS p k) n sh has i)) := by
  obtain ⟨ad, B0, d0, B2, d2, B4, d4, hM⟩ := mth_at (hp.below hb) k hk
  obtain ⟨O, oc, y0, y1, hoc, hO⟩ := st_shape hW i hg.lt
  have hlt := hg.lt
  have hn4 := hW.hn
  have hE : ∀ V, Below W.heap.size W V → Calls Tryd.prog 138 #[.agg #[.slice A0 p.pool.length c0, .slice A1 p.classes.length c1, .slice A2 p.methods.length c2], .int .i64 k, .agg #[.int .i64 (readAt (methS p k).f4 i).code, .int .i64 (readAt (methS p k).f4 i).a, .int .i64 (readAt (methS p k).f4 i).b, .int .i64 (readAt (methS p k).f4 i).size], .agg #[.slice O (sh.getD i ([], 0)).1.length oc, .int .i64 (sh.getD i ([], 0)).2]] V (EffPost V (effectS p (methS p k) (readAt (methS p k).f4 i).code (readAt (methS p k).f4 i).a (readAt (methS p k).f4 i).b (sh.getD i ([], 0)))) := fun V hV =>
    rEffect_calls ((hp.below hb).below hV) hfp k hk hlm _ _ _ _ _ hg.code.1 hg.code.2 hg.name hh0 hh1 (Kd.C_below hO hV) hoc (by omega)
  have hRD : ∀ V, Below W.heap.size W V → Calls Tryd.prog 14 #[.slice B4 (methS p k).f4.length d4, .int .i64 i] V fun e w' => e = .returned (readAt (methS p k).f4 i).val ∧ Below V.heap.size V w' := fun V hV => by
    have := rread_calls _ _ i V (hM.by'.below hV) (by omega)
    rwa [readS_at _ i (by omega)] at this
  obtain ⟨R, hR⟩ : ∃ R, throughS p (methS p k) n sh has i = R := ⟨_, rfl⟩
  rw [hR]
  unfold throughS onS at hR
  obtain ⟨m, hm⟩ : ∃ m, methS p k = m := ⟨_, rfl⟩
  rw [hm] at hM hE hRD hg hflen hsz hju hR hn
  obtain ⟨r, hr⟩ : ∃ r, readAt m.f4 i = r := ⟨_, rfl⟩
  have hgj := hg.jump
  have hgs := hg.size
  have hga := hg.a
  rw [hr] at hE hRD hflen hsz hju hR hgj hgs hga
  obtain ⟨rc, ra, rb, rz, re⟩ := r
  obtain ⟨⟨s, sH⟩, hs⟩ : ∃ s, sh.getD i ([], 0) = s := ⟨_, rfl⟩
  rw [hs] at hE hflen hR y0 y1
  dsimp only at hE hflen hR y0 y1 hsz hju hgj hgs hga
  change ∀ V, Below W.heap.size W V → Calls Tryd.prog 14 _ V fun e w' => e = .returned (.tuple #[.agg #[.int .i64 rc, .int .i64 ra, .int .i64 rb, .int .i64 rz], .int .i64 re]) ∧ _ at hRD
  obtain ⟨⟨⟨fs, fh⟩, fe⟩, hf⟩ : ∃ f, effectS p m rc ra rb (s, sH) = f := ⟨_, rfl⟩
  rw [hf] at hE hflen hR
  dsimp only at hflen hR
  obtain rfl := hM.e
  obtain ⟨x0, x1, x2⟩ := cells3V hW.blk
  have i0 : (0 : Int) ≤ (k : Int) := by omega
  have i1 : (k : Int) < (p.methods.length : Int) := by omega
  have i2 : (0 : Int) ≤ (i : Int) := by omega
  have i3 : (i : Int) < (n : Int) := by omega
  have hA : Below W.heap.size W (W.alloc (obP A0 c0 A1 c1 (some ad) c2 p)) := (Below.refl _ _).alloc (Nat.le_refl _) _
  have hrow := heap_alloc_new W (obP A0 c0 A1 c1 (some ad) c2 p)
  have HW := Lib.hid hW
  have HB := Lib.hid hb
  have HM := Lib.hid hM
  have HE := Lib.hid hE
  have HRD := Lib.hid hRD
  have HR := Lib.hid hR
  have HFL := Lib.hid hflen
  have HA := Lib.hid hA
  have HROW := Lib.hid hrow
  have HJ := Lib.hid (And.intro hsz (And.intro hju (And.intro hgj (And.intro hgs hga))))
  have HX := Lib.hid (And.intro x0 (And.intro y0 y1))
  have hin := hW.hn
  clear hp hfp hk hlm hW hb hg hh0 hh1 hlen hflen hsz hju hgj hgs hga hM hE hRD hR hf hs hr hm hA hrow hO hoc hlt hn4 hn x0 x1 x2 y0 y1
  go_enter Tryd.func102, Tryd.ntmps102
  go_upto_region 1 with fail
  obtain ⟨V, hV⟩ : ∃ V, W.alloc (obP A0 c0 A1 c1 (some ad) c2 p) = V := ⟨_, rfl⟩
  rw [hV] at HA HROW
  simp only [hV]
  clear hV
  obtain ⟨p0, p1, p2⟩ := cells3V HROW.out
  have m4 := cell_be HA.out HM.out.m4
  go_upto_region 2 with (first | (go_at_call 14; refine (HRD.out _ HA.out).mono ?_; rintro e w1 ⟨rfl, hb1⟩; clear p0 p1 p2 m4))
  have hBX := HA.out.trans ((hb1.alloc hb1.size (obO2 rc ra rb rz)).mono HA.out.size)
  have hP := row_alloc (row_kept hb1 HROW.out) (obO2 rc ra rb rz)
  have hO2 := heap_alloc_new w1 (obO2 rc ra rb rz)
  obtain ⟨G1, hG1⟩ : ∃ G1, w1.heap.size = G1 := ⟨_, rfl⟩
  have hGW : W.heap.size ≤ G1 := by have h1 := HA.out.size; have h2 := hb1.size; omega
  rw [hG1] at hO2
  simp only [hG1]
  obtain ⟨X, hX⟩ : ∃ X, w1.alloc (obO2 rc ra rb rz) = X := ⟨_, rfl⟩
  rw [hX] at hBX hP hO2
  simp only [hX]
  have HBX := Lib.hid hBX
  have HP := Lib.hid hP
  have HO2 := Lib.hid hO2
  clear hX hG1 hb1 hBX hP hO2 HROW HA HRD
  obtain ⟨p0, p1, p2⟩ := cells3V HP.out
  obtain ⟨o0, o1, o2, o3⟩ := cellsV HO2.out
  have x0 := cell_be HBX.out HX.out.1
  have y0 := cell_be HBX.out HX.out.2.1
  have y1 := cell_be HBX.out HX.out.2.2
  go_cut [11, 12] from 91 (fun s11 s12 Y => ∃ T A3 c3, s11 = .pointer (some ⟨T, 0, none⟩) ∧ s12 = .int .i64 fe ∧ Aft2 X fs fh T A3 c3 Y)
  case first =>
    go_region_held3 (fun w' => w'.cell? ⟨W.heap.size, 0, none⟩ = some (.slice A0 p.pool.length c0) ∧ w'.cell? ⟨W.heap.size, 1, none⟩ = some (.slice A1 p.classes.length c1) ∧ w'.cell? ⟨W.heap.size, 2, none⟩ = some (.slice (some ad) p.methods.length c2) ∧ w'.cell? ⟨G1, 0, none⟩ = some (.int .i64 rc) ∧ w'.cell? ⟨G1, 1, none⟩ = some (.int .i64 ra) ∧ w'.cell? ⟨G1, 2, none⟩ = some (.int .i64 rb) ∧ w'.cell? ⟨G1, 3, none⟩ = some (.int .i64 rz) ∧ w'.cell? ⟨L.G, 0, none⟩ = some (.slice (some ⟨L.gs, 0, none⟩) n n) ∧ w'.cell? ⟨L.gs, i * 2, none⟩ = some (.slice O s.length oc) ∧ w'.cell? ⟨L.gs, i * 2 + 1, none⟩ = some (.int .i64 sH))
      (first | (exact ⟨p0, p1, p2, o0, o1, o2, o3, x0, y0, y1⟩) | (exact ⟨cell_be hb3 p0, cell_be hb3 p1, cell_be hb3 p2, cell_be hb3 o0, cell_be hb3 o1, cell_be hb3 o2, cell_be hb3 o3, cell_be hb3 x0, cell_be hb3 y0, cell_be hb3 y1⟩) | (exact ⟨cell_be hb3 (cell_al p0 _), cell_be hb3 (cell_al p1 _), cell_be hb3 (cell_al p2 _), cell_be hb3 (cell_al o0 _), cell_be hb3 (cell_al o1 _), cell_be hb3 (cell_al o2 _), cell_be hb3 (cell_al o3 _), cell_be hb3 (cell_al x0 _), cell_be hb3 (cell_al y0 _), cell_be hb3 (cell_al y1 _)⟩) | (exact ⟨cell_al (cell_be hb3 p0) _, cell_al (cell_be hb3 p1) _, cell_al (cell_be hb3 p2) _, cell_al (cell_be hb3 o0) _, cell_al (cell_be hb3 o1) _, cell_al (cell_be hb3 o2) _, cell_al (cell_be hb3 o3) _, cell_al (cell_be hb3 x0) _, cell_al (cell_be hb3 y0) _, cell_al (cell_be hb3 y1) _⟩) | (exact ⟨cell_set2 (cell_be hb3 (cell_al p0 _)) (Nat.ne_of_lt (block_lt_of_cell p0)), cell_set2 (cell_be hb3 (cell_al p1 _)) (Nat.ne_of_lt (block_lt_of_cell p1)), cell_set2 (cell_be hb3 (cell_al p2 _)) (Nat.ne_of_lt (block_lt_of_cell p2)), cell_set2 (cell_be hb3 (cell_al o0 _)) (Nat.ne_of_lt (block_lt_of_cell o0)), cell_set2 (cell_be hb3 (cell_al o1 _)) (Nat.ne_of_lt (block_lt_of_cell o1)), cell_set2 (cell_be hb3 (cell_al o2 _)) (Nat.ne_of_lt (block_lt_of_cell o2)), cell_set2 (cell_be hb3 (cell_al o3 _)) (Nat.ne_of_lt (block_lt_of_cell o3)), cell_set2 (cell_be hb3 (cell_al x0 _)) (Nat.ne_of_lt (block_lt_of_cell x0)), cell_set2 (cell_be hb3 (cell_al y0 _)) (Nat.ne_of_lt (block_lt_of_cell y0)), cell_set2 (cell_be hb3 (cell_al y1 _)) (Nat.ne_of_lt (block_lt_of_cell y1))⟩) | go_keep)
      (first | (go_at_call 138; refine (HE.out _ HBX.out.drew).mono ?_; rintro e w3 ⟨v3, rfl, ho3, hb3⟩; obtain ⟨A3, c3, rfl⟩ := own_slice ho3) | (go_at_call 138; refine (HE.out _ (HBX.out.alloc HBX.out.size obZ2).drew).mono ?_; rintro e w3 ⟨v3, rfl, ho3, hb3⟩; obtain ⟨A3, c3, rfl⟩ := own_slice ho3; have z2 := row_kept hb3 (row_drewV (heap_alloc_new X obZ2)); have fa := Lib.frozen_of_heap z2 0; have fb := Lib.frozen_of_heap z2 1; obtain ⟨ca, cb⟩ := cells2V z2))
    all_goals
      go_wp2_with fail
      go_meet
      case rel =>
        first
        | exact ⟨_, A3, c3, rfl, rfl, aft_new ho3 ((Below.refl _ X).drew.trans hb3)⟩
        | exact ⟨_, A3, c3, rfl, rfl, aft_set (row_kept hb3 (row_drewV (heap_alloc_new X obZ2))) (Nat.le_refl _) (row_base ho3 (by simp)) (((Below.refl _ X).alloc (Nat.le_refl _) obZ2).drew.trans (hb3.mono (by simp)))⟩
  case rest =>
    obtain ⟨T, A3, c3, rfl, rfl, hb2, hrowT, hown, hTX⟩ := hcut
    have hWc := HBX.out.trans (hb2.mono HBX.out.size)
    have q1 := row_kept hb2 HP.out
    have q2 := row_kept hb2 HO2.out
    have hsX := HBX.out.size
    have how := row_base hown (Nat.le_trans HB.out.size hsX)
    have lgs : L.gs < W.heap.size := block_lt_of_cell HX.out.2.1
    have lgh : L.gh < W.heap.size := (Array.getElem?_eq_some_iff.1 HW.out.hh).1
    have HWC := Lib.hid hWc
    have Q1 := Lib.hid q1
    have Q2 := Lib.hid q2
    have QT := Lib.hid hrowT
    have HOW := Lib.hid how
    have HNE := Lib.hid (show G1 ≠ L.gs ∧ G1 ≠ L.gh ∧ T ≠ L.gs ∧ T ≠ L.gh by omega)
    clear x0 y0 y1 p0 p1 p2 o0 o1 o2 o3 hb2 hsX how hown lgs lgh hTX hGW HP HO2 HX
    obtain ⟨p0, p1, p2⟩ := cells3V q1
    obtain ⟨o0, o1, o2, o3⟩ := cellsV q2
    obtain ⟨t0, t1⟩ := cells2V hrowT
    have m3 := cell_be hWc HM.out.m3
    clear hWc q1 q2 hrowT HBX
    by_cases he : fe = 0
    · subst he
      obtain ⟨bq, hbq⟩ : ∃ b, decide (m.f3 < (fs.length : Int)) = b := ⟨_, rfl⟩
      go_upto_region 5 with fail
      go_cut [50] from 91 (fun s Y => s = .bool bq ∧ Below wc.heap.size wc Y)
      case first =>
        go_quiet (fail)
        all_goals go_wp2_with fail
        go_meet
        case rel => exact ⟨by first | rfl | (rw [hbq]; done), below_drewN0 (Below.refl _ _) _⟩
      case rest =>
        obtain ⟨rfl, hbY⟩ := hcut
        have HWY := Lib.hid (HWC.out.trans (hbY.mono HWC.out.size))
        have R1 := Lib.hid (row_kept hbY Q1.out)
        have R2 := Lib.hid (row_kept hbY Q2.out)
        have RT := Lib.hid (row_kept hbY QT.out)
        have HOY := Lib.hid (pw_own_below HOW.out hbY)
        clear p0 p1 p2 o0 o1 o2 o3 t0 t1 m3 hbY Q1 Q2 QT HOW HWC
        obtain ⟨o0, o1, o2, o3⟩ := cellsV R2.out
        obtain ⟨t0, t1⟩ := cells2V RT.out
        have hR := HR.out
        rw [if_neg (by simp)] at hR
        cases bq with
        | true =>
          rw [if_pos (.inl (of_decide_eq_true hbq))] at hR
          subst hR
          clear hbq
          go_wp2_with fail
          go_ret
          exact ⟨rfl, HW.out.below HWY.out, HB.out.trans (HWY.out.mono HB.out.size), Fr.of_below HWY.out⟩
        | false =>
          have hq := of_decide_eq_false hbq
          clear hbq
          have hre : ∀ q : Int, 0 ≤ q → q ≤ n → Calls Tryd.prog 139 #[.pointer (some ⟨L.G, 0, none⟩), .int .i64 q, .agg #[.slice A3 fs.length c3, .int .i64 fh]] wc (RtPost L n w0 wc gone (reachS n sh has q (fs, fh))) := fun q h0 h1 =>
            rreach_calls (HW.out.below HWY.out) (HB.out.trans (HWY.out.mono HB.out.size)) q h0 h1 (fs, fh) HOY.out HFL.out
          obtain ⟨hsz, hju, hgj, hgs, hga⟩ := HJ.out
          by_cases h28 : rc = 28
          · subst h28
            clear hre hsz hju hgj hgs hga
            obtain ⟨N, hN⟩ : ∃ N, fs.length = N := ⟨_, rfl⟩
            rw [hN] at t0 hR
            by_cases hz : 0 < N
            · have u1 : decide (0 < (N : Int)) = true := decide_eq_true (by omega)
              have u1n : decide (0 < N) = true := decide_eq_true hz
              rw [if_pos (.inr ⟨rfl, hz⟩)] at hR
              subst hR
              clear hq hN
              go_wp2_with fail
              go_ret
              exact ⟨rfl, HW.out.below HWY.out, HB.out.trans (HWY.out.mono HB.out.size), Fr.of_below HWY.out⟩
            · have u1 : decide (0 < (N : Int)) = false := decide_eq_false (by omega)
              have u1n : decide (0 < N) = false := decide_eq_false hz
              rw [if_neg (by omega)] at hR
              by_cases hh : fh = 0
              · have u2 : (fh != 0) = false := by rw [bne_eq_false_iff_eq]; exact hh
                rw [if_neg (fun h => h.2 hh), if_pos rfl] at hR
                subst hR
                clear hh hq hN
                go_wp2_with fail
                go_ret
                exact ⟨rfl, HW.out.below HWY.out, HB.out.trans (HWY.out.mono HB.out.size), Fr.of_below HWY.out⟩
              · have u2 : (fh != 0) = true := by rw [bne_iff_ne]; exact hh
                rw [if_pos ⟨rfl, hh⟩] at hR
                subst hR
                clear hh hq hN
                go_wp2_with fail
                go_ret
                exact ⟨rfl, HW.out.below HWY.out, HB.out.trans (HWY.out.mono HB.out.size), Fr.of_below HWY.out⟩
          · have e28 : (rc == 28) = false := by simpa using h28
            rw [if_neg (fun h => h.elim (fun h => hq h) (fun h => h28 h.1)), if_neg (fun h => h28 h.1), if_neg h28] at hR
            by_cases h25 : rc = 25
            · subst h25
              rw [if_pos rfl] at hR
              have hr1 := hre ((i : Int) + ra) (hgj (.inl rfl)) (hju (.inl rfl))
              rw [hR] at hr1
              obtain ⟨⟨ra1, ra2⟩, rr⟩ := R
              clear hre hsz hju hgj hgs hq h28 hR
              go_wp2_with (first | (go_at_call 139; refine hr1.mono ?_; rintro e Y2 ⟨rfl, hW2, hb2, hf2⟩))
              go_ret
              exact ⟨rfl, hW2, hb2, (Fr.of_below HWY.out).trans hf2⟩
            · have e25 : (rc == 25) = false := by simpa using h25
              have n25 : (rc != 25) = true := by rw [bne_iff_ne]; exact h25
              rw [if_neg h25] at hR
              have hr1 := hre ((i : Int) + rz) (by omega) hsz
              obtain ⟨⟨⟨sh1, has1⟩, r1⟩, hr1e⟩ : ∃ r, reachS n sh has ((i : Int) + rz) (fs, fh) = r := ⟨_, rfl⟩
              rw [hr1e] at hr1 hR
              by_cases h26 : rc = 26
              · subst h26
                rw [if_pos rfl] at hR
                dsimp only at hR
                by_cases hz : r1 = 0
                · subst hz
                  rw [if_pos rfl] at hR
                  obtain ⟨⟨⟨sh2, has2⟩, r2⟩, hr2e⟩ : ∃ r, reachS n sh1 has1 ((i : Int) + ra) (fs, fh) = r := ⟨_, rfl⟩
                  rw [hr2e] at hR
                  subst hR
                  have hj2 := And.intro (hgj (.inr rfl)) (hju (.inr rfl))
                  have HJ2 := Lib.hid hj2
                  have HR2 := Lib.hid hr2e
                  clear hre hsz hju hgj hq h28 h25 hr1e hj2 hr2e
                  go_wp2_with (first | (go_at_call 139; refine hr1.mono ?_; rintro e Y2 ⟨rfl, hW2, hb2, hf2⟩; clear o0 o1 o2 o3 t0 t1 hr1; have r2 := hf2.2 _ _ R2.out HNE.out.1 HNE.out.2.1; have rt := hf2.2 _ _ RT.out HNE.out.2.2.1 HNE.out.2.2.2; obtain ⟨o0, o1, o2, o3⟩ := cellsV r2; obtain ⟨t0, t1⟩ := cells2V rt; have HF2 := Lib.hid hf2; have HW2 := Lib.hid hW2; have HB2 := Lib.hid hb2; have HO2 := Lib.hid (own_fr HOY.out hf2 (HW.out.below HWY.out)); clear hW2 hb2 hf2 r2 rt) | (go_at_call 139; refine (rreach_calls HW2.out HB2.out _ HJ2.out.1 HJ2.out.2 (fs, fh) HO2.out HFL.out).mono ?_; rw [HR2.out]; rintro e Y3 ⟨rfl, hW3, hb3, hf3⟩))
                  go_ret
                  exact ⟨rfl, hW3, hb3, ((Fr.of_below HWY.out).trans HF2.out).trans hf3⟩
                · have u1 : (r1 == 0) = false := by simpa using hz
                  rw [if_neg hz] at hR
                  subst hR
                  clear hre hsz hju hgj hga hq h28 h25 hr1e hz
                  go_wp2_with (first | (go_at_call 139; refine hr1.mono ?_; rintro e Y2 ⟨rfl, hW2, hb2, hf2⟩; clear o0 o1 o2 o3 t0 t1; have r2 := hf2.2 _ _ R2.out HNE.out.1 HNE.out.2.1; obtain ⟨o0, o1, o2, o3⟩ := cellsV r2; clear r2))
                  go_ret
                  exact ⟨rfl, hW2, hb2, (Fr.of_below HWY.out).trans hf2⟩
              · have e26 : (rc == 26) = false := by simpa using h26
                rw [if_neg h26] at hR
                subst hR
                clear hre hsz hju hgj hga hq h28 h25 h26 hr1e
                by_cases hz : r1 = 0
                · subst hz
                  go_wp2_with (first | (go_at_call 139; refine hr1.mono ?_; rintro e Y2 ⟨rfl, hW2, hb2, hf2⟩; clear o0 o1 o2 o3 t0 t1; have r2 := hf2.2 _ _ R2.out HNE.out.1 HNE.out.2.1; obtain ⟨o0, o1, o2, o3⟩ := cellsV r2; clear r2))
                  go_ret
                  exact ⟨rfl, hW2, hb2, (Fr.of_below HWY.out).trans hf2⟩
                · have u1 : (r1 == 0) = false := by simpa using hz
                  clear hz
                  go_wp2_with (first | (go_at_call 139; refine hr1.mono ?_; rintro e Y2 ⟨rfl, hW2, hb2, hf2⟩; clear o0 o1 o2 o3 t0 t1; have r2 := hf2.2 _ _ R2.out HNE.out.1 HNE.out.2.1; obtain ⟨o0, o1, o2, o3⟩ := cellsV r2; clear r2))
                  go_ret
                  exact ⟨rfl, hW2, hb2, (Fr.of_below HWY.out).trans hf2⟩
    · have u0 : (fe != 0) = true := by rw [bne_iff_ne]; exact he
      have hR := HR.out
      rw [if_pos he] at hR
      subst hR
      clear he
      go_wp2_with fail
      go_ret
      exact ⟨rfl, HW.out.below HWC.out, HB.out.trans (HWC.out.mono HB.out.size), Fr.of_below HWC.out⟩
end
end Go.Proofs.YtkphijabhoppnaaDoor
