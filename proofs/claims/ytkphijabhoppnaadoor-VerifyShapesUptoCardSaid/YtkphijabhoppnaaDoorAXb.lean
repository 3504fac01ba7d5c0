/- VerifyShapes walked. -/
import Derived.Test.YtkphijabhoppnaaDoorAXa
import Derived.Test.YtkphijabhoppnaaDoorAVx
import Derived.BigQuiet
namespace Go.Proofs.YtkphijabhoppnaaDoor
open Go.RowKit Go.Proofs.YtkphijabhoppnaaDoorW.PrintWords
set_option linter.unusedSimpArgs false
set_option linter.unusedVariables false
def TruthPost (w : World) (e : Ending) (w' : World) : Prop := e = .returned (.bool true) ∧ Below w.heap.size w w'
section
variable {w : World} {A0 A1 A2 : Option Addr} {c0 c1 c2 : Nat} {p : Pg}
set_option maxRecDepth 100000 in
set_option maxHeartbeats 1600000 in
theorem shapesLaw_many (hp : PgX w A0 c0 A1 c1 A2 c2 p) (hG : Glob w) (m : Int) (h : fewS p = false) :
    Calls Tryd.prog 8 #[.agg #[.slice A0 p.pool.length c0, .slice A1 p.classes.length c1, .slice A2 p.methods.length c2], .int .i64 m] w (TruthPost w) := by
  have hA : Below w.heap.size w (w.alloc (obP A0 c0 A1 c1 A2 c2 p)) := (Below.refl _ w).alloc (Nat.le_refl _) _
  have hrow := heap_alloc_new w (obP A0 c0 A1 c1 A2 c2 p)
  have hK := known15 _ (hG.below hA)
  have hF : ∀ V, Below w.heap.size w V → Calls Tryd.prog 28 #[.agg #[.slice A0 p.pool.length c0, .slice A1 p.classes.length c1, .slice A2 p.methods.length c2]] V fun e w' => e = .returned (.bool false) ∧ Below V.heap.size V w' := fun V hV => by
    have := few_calls (hp.below hV).pg hp.small
    rwa [h] at this
  have HA := Lib.hid hA
  have HR := Lib.hid hrow
  have HF := Lib.hid hF
  clear hA hrow hF hp hG h
  go_enter Tryd.func8, Tryd.ntmps8
  go_wp2_with (first | (go_at_call 27; refine hK.mono ?_; rintro e w1 ⟨rfl, hb1⟩; obtain ⟨y0, y1, y2⟩ := cells3V (row_kept hb1 HR.out); have B1 := Lib.hid (HA.out.trans (hb1.mono HA.out.size)); clear hb1) | (go_at_call 28; refine (HF.out _ B1.out).mono ?_; rintro e w2 ⟨rfl, hb2⟩))
  go_ret
  exact ⟨rfl, B1.out.trans (hb2.mono B1.out.size)⟩
set_option maxRecDepth 100000 in
set_option maxHeartbeats 1600000 in
theorem shapesLaw_bad (hp : PgX w A0 c0 A1 c1 A2 c2 p) (hG : Glob w) (m : Int) (h : fewS p = true) (hm : (mthS p m).2 ≠ 0) :
    Calls Tryd.prog 8 #[.agg #[.slice A0 p.pool.length c0, .slice A1 p.classes.length c1, .slice A2 p.methods.length c2], .int .i64 m] w (TruthPost w) := by
  have hA : Below w.heap.size w (w.alloc (obP A0 c0 A1 c1 A2 c2 p)) := (Below.refl _ w).alloc (Nat.le_refl _) _
  have hrow := heap_alloc_new w (obP A0 c0 A1 c1 A2 c2 p)
  have hK := known15 _ (hG.below hA)
  have hF : ∀ V, Below w.heap.size w V → Calls Tryd.prog 28 #[.agg #[.slice A0 p.pool.length c0, .slice A1 p.classes.length c1, .slice A2 p.methods.length c2]] V fun e w' => e = .returned (.bool true) ∧ Below V.heap.size V w' := fun V hV => by
    have := few_calls (hp.below hV).pg hp.small
    rwa [h] at this
  obtain ⟨er, her⟩ : ∃ er, (mthS p m).2 = er := ⟨_, rfl⟩
  have hS : ∀ V, Below w.heap.size w V → Calls Tryd.prog 33 #[.agg #[.slice A0 p.pool.length c0, .slice A1 p.classes.length c1, .slice A2 p.methods.length c2], .int .i64 m] V fun e w' => e = .returned (.tuple #[.slice none 0 0, .slice none 0 0, .int .i64 er]) ∧ Below V.heap.size V w' := fun V hV => by
    have := shapes_err (hp.below hV) (hG.below hV) (few_par h) m hm
    rwa [her] at this
  rw [her] at hm
  have t1 : (er != 0) = true := by simpa using hm
  have HA := Lib.hid hA
  have HR := Lib.hid hrow
  have HF := Lib.hid hF
  have HS := Lib.hid hS
  clear hA hrow hF hS hp hG h hm her
  go_enter Tryd.func8, Tryd.ntmps8
  go_wp2_with (first | (go_at_call 27; refine hK.mono ?_; rintro e w1 ⟨rfl, hb1⟩; obtain ⟨y0, y1, y2⟩ := cells3V (row_kept hb1 HR.out); have B1 := Lib.hid (HA.out.trans (hb1.mono HA.out.size)); have R1 := Lib.hid (row_kept hb1 HR.out); clear hb1) | (go_at_call 28; refine (HF.out _ B1.out).mono ?_; rintro e w2 ⟨rfl, hb2⟩; clear y0 y1 y2; obtain ⟨y0, y1, y2⟩ := cells3V (row_kept hb2 R1.out); have B2 := Lib.hid (B1.out.trans (hb2.mono B1.out.size)); clear hb2) | (go_at_call 33; refine (HS.out _ B2.out).mono ?_; rintro e w3 ⟨rfl, hb3⟩))
  go_ret
  exact ⟨rfl, B2.out.trans (hb3.mono B2.out.size)⟩
set_option maxRecDepth 100000 in
set_option maxHeartbeats 3200000 in
theorem shapesLaw_ok (hp : PgX w A0 c0 A1 c1 A2 c2 p) (hG : Glob w) (k : Nat) (h : fewS p = true) (hk : k < p.methods.length) (hsz : sizesS (methS p k) = 0) (hz : (methodS p (methS p k)).1.2 = 0) (hmt : (mthS p k).2 = 0) :
    Calls Tryd.prog 8 #[.agg #[.slice A0 p.pool.length c0, .slice A1 p.classes.length c1, .slice A2 p.methods.length c2], .int .i64 k] w (TruthPost w) := by
  have hf := few_par h
  have hA : Below w.heap.size w (w.alloc (obP A0 c0 A1 c1 A2 c2 p)) := (Below.refl _ w).alloc (Nat.le_refl _) _
  have hrow := heap_alloc_new w (obP A0 c0 A1 c1 A2 c2 p)
  have hK := known15 _ (hG.below hA)
  have hF : ∀ V, Below w.heap.size w V → Calls Tryd.prog 28 #[.agg #[.slice A0 p.pool.length c0, .slice A1 p.classes.length c1, .slice A2 p.methods.length c2]] V fun e w' => e = .returned (.bool true) ∧ Below V.heap.size V w' := fun V hV => by
    have := few_calls (hp.below hV).pg hp.small
    rwa [h] at this
  have hzs := sizes_zero hsz
  have hmem : methS p k ∈ p.methods := by unfold methS; rw [meth_at p k hk]; exact List.getElem_mem hk
  obtain ⟨hRd, hCl⟩ := method_closed (hp.byt _ hmem) hzs.2.2.1 hzs.2.2.2 hzs.2.1 hf hz
  obtain ⟨⟨qr, sh, has⟩, hq⟩ : ∃ q, methodS p (methS p k) = q := ⟨_, rfl⟩
  rw [hq] at hCl
  dsimp only at hCl
  have hS : ∀ V, Below w.heap.size w V → Calls Tryd.prog 33 #[.agg #[.slice A0 p.pool.length c0, .slice A1 p.classes.length c1, .slice A2 p.methods.length c2], .int .i64 k] V fun e w' => ∃ E : Env, e = .returned (.tuple #[.slice (some ⟨E.gs, 0, none⟩) (methS p k).f4.length (methS p k).f4.length, .slice (some ⟨E.gh, 0, none⟩) (methS p k).f4.length (methS p k).f4.length, .int .i64 0]) ∧ Below V.heap.size V w' ∧
      E.n = (methS p k).f4.length ∧ WkI E w.heap.size w' sh has := fun V hV => by
    refine (shapes_ok (hp.below hV) (hG.below hV) hf k hmt).mono ?_
    rintro e w' ⟨E, rfl, hb, e1, e2, e3, hW⟩
    rw [hq] at hW
    exact ⟨E, by rw [e3], hb, e3, hW.lower hV.size⟩
  obtain ⟨ad, B0, d0, B2, d2, B4, d4, hM⟩ := mth_at hp k hk
  have hEf : ∀ V, Below w.heap.size w V → ∀ (c a b o : Int) (s : Shp) (S0 : Option Addr) (sc : Nat), 0 ≤ c → c ≤ 40 → namedS p (methS p k) c a b = true → I64 a → 0 ≤ s.2 → s.2 ≤ 10 → Kd.C (Kd.int .i64) V S0 s.1.length s.1 → s.1.length ≤ sc → s.1.length ≤ 100000 →
      Calls Tryd.prog 36 #[.agg #[.slice A0 p.pool.length c0, .slice A1 p.classes.length c1, .slice A2 p.methods.length c2], .int .i64 k, .agg #[.int .i64 c, .int .i64 a, .int .i64 b, .int .i64 o], .agg #[.slice S0 s.1.length sc, .int .i64 s.2]] V (EffPost V (effectS p (methS p k) c a b s)) :=
    fun V hV c a b o s S0 sc h1 h2 h3 h4 h5 h6 h7 h8 h9 => Effect_calls (hp.below hV) (hG.below hV) hf k hk c a b o s h1 h2 h3 h4 h5 h6 h7 h8 h9
  obtain ⟨m, hm⟩ : ∃ m, methS p k = m := ⟨_, rfl⟩
  rw [hm] at hM hzs hRd hCl hS hEf
  have hRdc : ∀ V, Below w.heap.size w V → ∀ i : Nat, i < m.f4.length → Calls Tryd.prog 13 #[.slice B4 m.f4.length d4, .int .i64 i] V fun e w' => e = .returned (readAt m.f4 i).val ∧ Below V.heap.size V w' := fun V hV i hi => by
    have := read_calls (.slice B4 m.f4.length d4) m.f4 i V (hG.below hV) (hM.by'.below hV)
    rwa [readS_at _ _ hi] at this
  obtain rfl := hM.e
  have i0 : (0 : Int) ≤ (k : Int) := by omega
  have i1 : (k : Int) < (p.methods.length : Int) := by omega
  have l0 : (0 : Int) < (m.f4.length : Int) := by have := hzs.2.2.1; omega
  have HA := Lib.hid hA
  have HR := Lib.hid hrow
  have HF := Lib.hid hF
  have HS := Lib.hid hS
  have HM := Lib.hid hM
  have HZ := Lib.hid hzs
  have HRd := Lib.hid hRd
  have HCl := Lib.hid hCl
  have HEf := Lib.hid hEf
  have HRC := Lib.hid hRdc
  clear hA hrow hF hS hp hG h hf hk hsz hz hmt hzs hmem hRd hCl hq hM hEf hm hRdc
  go_enter Tryd.func8, Tryd.ntmps8
  go_wp2_with (first | (go_at_call 27; refine hK.mono ?_; rintro e w1 ⟨rfl, hb1⟩; obtain ⟨y0, y1, y2⟩ := cells3V (row_kept hb1 HR.out); have B1 := Lib.hid (HA.out.trans (hb1.mono HA.out.size)); have R1 := Lib.hid (row_kept hb1 HR.out); clear hb1) | (go_at_call 28; refine (HF.out _ B1.out).mono ?_; rintro e w2 ⟨rfl, hb2⟩; clear y0 y1 y2; obtain ⟨y0, y1, y2⟩ := cells3V (row_kept hb2 R1.out); have B2 := Lib.hid (B1.out.trans (hb2.mono B1.out.size)); have R2 := Lib.hid (row_kept hb2 R1.out); clear hb2) | (go_at_call 33; refine (HS.out _ B2.out).mono ?_; rintro e w3 ⟨E, rfl, hb3, hEn, hWk⟩; clear y0 y1 y2; obtain ⟨y0, y1, y2⟩ := cells3V (row_kept hb3 R2.out); have B3 := Lib.hid (B2.out.trans (hb3.mono B2.out.size)); have R3 := Lib.hid (row_kept hb3 R2.out); have m4 := cell_be B3.out HM.out.m4; have hh0 := cell_bools hWk.hh 0 (by rw [hWk.lh, hEn]; exact HZ.out.2.2.1); rw [HCl.out.zero.1] at hh0; obtain ⟨O, oc, u0, u1, -, -⟩ := shape_at hWk 0 (by rw [hEn]; exact HZ.out.2.2.1); rw [HCl.out.zero.2] at u0 u1; have HW := Lib.hid hWk; have HEn := Lib.hid hEn; clear hb3 hWk hEn))
  clear y0 y1 y2 m4 hh0 u0 u1 hK
  go_loopg [9] m.f4.length (fun g s9 wx => ∃ j : Nat, j + g = m.f4.length ∧ s9 = .int .i64 j ∧ Hid (Below w.heap.size w wx ∧ WkI E w.heap.size wx sh has ∧ wx.heap[w.heap.size]? = some (obP A0 c0 A1 c1 (some ad) c2 p)))
  case atStart => exact ⟨0, by omega, rfl, Lib.hid ⟨B3.out, HW.out, R3.out⟩⟩
  case round =>
    obtain ⟨j, hjg, rfl, HJ⟩ := hrel
    clear B1 B2 B3 R1 R2 R3 HW
    have hzl := HZ.out.2.2.2
    cases gk with
    | zero =>
      have ht : decide ((j : Int) < (m.f4.length : Int)) = false := by simp; omega
      go_wp2_with fail
      try rw [Exit.noGoto_ret]
      go_ret
      exact ⟨rfl, HJ.out.1⟩
    | succ g =>
      have hj : j < m.f4.length := by omega
      have ht : decide ((j : Int) < (m.f4.length : Int)) = true := by simp; omega
      have j0 : (0 : Int) ≤ (j : Int) := by omega
      have j1 : (j : Int) < (m.f4.length : Int) := by omega
      have xh := cell_bools HJ.out.2.1.hh j (by rw [HJ.out.2.1.lh, HEn.out]; exact hj)
      cases hb : has.getD j false with
      | false =>
        rw [hb] at xh
        clear hb
        go_wp2_with fail
        go_roundg g
        case measure => omega
        case rel => exact ⟨j + 1, by omega, by first | rfl | simp, Lib.hid HJ.out⟩
      | true =>
        rw [hb] at xh
        have hb0 := HCl.out.inv.at' j hb
        have hFi := fine_at HRd.out j hb0.1
        have hOn := HCl.out.on j hb
        have hRC := HRC.out wr HJ.out.1 j hj
        obtain ⟨y0, y1, y2⟩ := cells3V HJ.out.2.2
        obtain ⟨⟨rc, ra, rb, rz, re⟩, hr⟩ : ∃ r, readAt m.f4 j = r := ⟨_, rfl⟩
        obtain ⟨f, hef⟩ : ∃ f, effAt p m sh j = f := ⟨_, rfl⟩
        have hg := hFi.good
        obtain ⟨o1, o2, o3, o4⟩ := hOn
        rw [hef] at o1 o2 o3 o4
        obtain ⟨g1, g2, g3, g4, g5, g6, g7⟩ := hg
        rw [hr] at hRC g2 g3 g4 g5 g6 g7 o3 o4
        unfold effAt at hef
        rw [hr] at hef
        dsimp only [Rd.val] at hRC g2 g3 g4 g5 g6 g7 o3 o4 hef
        subst g2
        obtain ⟨⟨fl, fh⟩, fe⟩ := f
        dsimp only at o1 o2 o3 o4
        subst o1
        have hai : I64 ra := ⟨by have := g7.1; omega, by have := g7.2; omega⟩
        have hEff := fun V (hV : Below w.heap.size w V) (S0 : Option Addr) (sc : Nat) (hC : Kd.C (Kd.int .i64) V S0 (sh.getD j ([], 0)).1.length (sh.getD j ([], 0)).1) (hle : (sh.getD j ([], 0)).1.length ≤ sc) => HEf.out V hV rc ra rb rz (sh.getD j ([], 0)) S0 sc g3.1 g3.2 g4 hai hb0.2.1 hb0.2.2.1 hC hle (by omega)
        rw [hef] at hEff
        have HEff := Lib.hid hEff
        have HO2 := Lib.hid o2
        have HO3 := Lib.hid o3
        have HO4 := Lib.hid o4
        have HG3 := Lib.hid g3
        have HG5 := Lib.hid g5
        have HG6 := Lib.hid g6
        have HG7 := Lib.hid g7
        have HB0 := Lib.hid hb0
        have HRC2 := Lib.hid hRC
        clear hb hFi hr hef hEff o2 o3 o4 g1 g3 g4 g5 g6 g7 hai hb0 hRC
        go_upto_region 18 with (first | (go_at_call 13; refine HRC2.out.mono ?_; rintro e w4 ⟨rfl, hb4⟩))
        have hV0 : Below w.heap.size w (w4.alloc (obO rc ra rb rz)) := (HJ.out.1.trans (hb4.mono HJ.out.1.size)).alloc (Nat.le_trans HJ.out.1.size hb4.size) _
        have hbV : Below wr.heap.size wr (w4.alloc (obO rc ra rb rz)) := hb4.alloc hb4.size _
        have hWV : WkI E w.heap.size (w4.alloc (obO rc ra rb rz)) sh has := HJ.out.2.1.below hbV
        have hPV := row_kept hbV HJ.out.2.2
        have hQV := heap_alloc_new w4 (obO rc ra rb rz)
        have hsV : (w4.alloc (obO rc ra rb rz)).heap.size = w4.heap.size + 1 := by simp
        obtain ⟨V, hV⟩ : ∃ V, w4.alloc (obO rc ra rb rz) = V := ⟨_, rfl⟩
        rw [hV] at hV0 hWV hPV hQV hsV ⊢
        obtain ⟨Q, hQ⟩ : ∃ Q, w4.heap.size = Q := ⟨_, rfl⟩
        rw [hQ] at hQV hsV ⊢
        clear hV hQ y0 y1 y2
        obtain ⟨y0, y1, y2⟩ := cells3V hPV
        obtain ⟨k0, k1, k2, k3⟩ := cellsV hQV
        obtain ⟨O, oc, u0, u1, hoc, hO⟩ := shape_at hWV j (by rw [HEn.out]; exact hj)
        have nQ : Q ≠ V.heap.size := by omega
        have nP : w.heap.size ≠ V.heap.size := by have := (Array.getElem?_eq_some_iff.1 hPV).1; omega
        have nS : E.gs ≠ V.heap.size := by have := block_lt_of_cell u0; dsimp only at this; omega
        have HV0 := Lib.hid hV0
        have HWV := Lib.hid hWV
        have HPV := Lib.hid hPV
        have HQV := Lib.hid hQV
        have HO := Lib.hid (And.intro hoc hO)
        clear hb4 hV0 hbV hWV hPV hQV hsV hoc hO
        (try simp only [Act.put, List.setIfInBounds_toArray, List.set_cons_zero, List.set_cons_succ])
        go_cut [11, 12] from 189 (fun v11 v12 wc => ∃ (Z : Nat) (A3 : Option Addr) (c3 : Nat), v11 = .int .i64 0 ∧ v12 = .pointer (some ⟨Z, 0, none⟩) ∧ Below V.heap.size V wc ∧ wc.heap[Z]? = some (.cells #[.slice A3 fl.length c3, .int .i64 fh] 81 (0, 0)) ∧ wc.ownsRow V.heap.size 3 1 (.slice A3 fl.length c3) fl.length (nums .i64 fl))
        case first =>
          go_region_held3 (fun w' => w'.cell? ⟨w.heap.size, 0, none⟩ = some (.slice A0 p.pool.length c0) ∧ w'.cell? ⟨w.heap.size, 1, none⟩ = some (.slice A1 p.classes.length c1) ∧ w'.cell? ⟨w.heap.size, 2, none⟩ = some (.slice (some ad) p.methods.length c2) ∧ w'.cell? ⟨Q, 0, none⟩ = some (.int .i64 rc) ∧ w'.cell? ⟨Q, 1, none⟩ = some (.int .i64 ra) ∧ w'.cell? ⟨Q, 2, none⟩ = some (.int .i64 rb) ∧ w'.cell? ⟨Q, 3, none⟩ = some (.int .i64 rz) ∧ w'.cell? ⟨E.gs, j * 2, none⟩ = some (.slice O (sh.getD j ([], 0)).1.length oc) ∧ w'.cell? ⟨E.gs, j * 2 + 1, none⟩ = some (.int .i64 (sh.getD j ([], 0)).2))
            (first | (exact ⟨y0, y1, y2, k0, k1, k2, k3, u0, u1⟩) | (exact ⟨cell_be hb5 y0, cell_be hb5 y1, cell_be hb5 y2, cell_be hb5 k0, cell_be hb5 k1, cell_be hb5 k2, cell_be hb5 k3, cell_be hb5 u0, cell_be hb5 u1⟩) | (exact ⟨cell_al y0 _, cell_al y1 _, cell_al y2 _, cell_al k0 _, cell_al k1 _, cell_al k2 _, cell_al k3 _, cell_al u0 _, cell_al u1 _⟩) | (exact ⟨cell_be hb5 (cell_al y0 _), cell_be hb5 (cell_al y1 _), cell_be hb5 (cell_al y2 _), cell_be hb5 (cell_al k0 _), cell_be hb5 (cell_al k1 _), cell_be hb5 (cell_al k2 _), cell_be hb5 (cell_al k3 _), cell_be hb5 (cell_al u0 _), cell_be hb5 (cell_al u1 _)⟩) | (exact ⟨cell_al (cell_be hb5 y0) _, cell_al (cell_be hb5 y1) _, cell_al (cell_be hb5 y2) _, cell_al (cell_be hb5 k0) _, cell_al (cell_be hb5 k1) _, cell_al (cell_be hb5 k2) _, cell_al (cell_be hb5 k3) _, cell_al (cell_be hb5 u0) _, cell_al (cell_be hb5 u1) _⟩) | (exact ⟨(cell_far (a := ⟨w.heap.size, 0, none⟩) (p := ⟨V.heap.size, 1, none⟩) nP _).trans ((cell_far (a := ⟨w.heap.size, 0, none⟩) (p := ⟨V.heap.size, 0, none⟩) nP _).trans (cell_be hb5 (cell_al y0 _))), (cell_far (a := ⟨w.heap.size, 1, none⟩) (p := ⟨V.heap.size, 1, none⟩) nP _).trans ((cell_far (a := ⟨w.heap.size, 1, none⟩) (p := ⟨V.heap.size, 0, none⟩) nP _).trans (cell_be hb5 (cell_al y1 _))), (cell_far (a := ⟨w.heap.size, 2, none⟩) (p := ⟨V.heap.size, 1, none⟩) nP _).trans ((cell_far (a := ⟨w.heap.size, 2, none⟩) (p := ⟨V.heap.size, 0, none⟩) nP _).trans (cell_be hb5 (cell_al y2 _))), (cell_far (a := ⟨Q, 0, none⟩) (p := ⟨V.heap.size, 1, none⟩) nQ _).trans ((cell_far (a := ⟨Q, 0, none⟩) (p := ⟨V.heap.size, 0, none⟩) nQ _).trans (cell_be hb5 (cell_al k0 _))), (cell_far (a := ⟨Q, 1, none⟩) (p := ⟨V.heap.size, 1, none⟩) nQ _).trans ((cell_far (a := ⟨Q, 1, none⟩) (p := ⟨V.heap.size, 0, none⟩) nQ _).trans (cell_be hb5 (cell_al k1 _))), (cell_far (a := ⟨Q, 2, none⟩) (p := ⟨V.heap.size, 1, none⟩) nQ _).trans ((cell_far (a := ⟨Q, 2, none⟩) (p := ⟨V.heap.size, 0, none⟩) nQ _).trans (cell_be hb5 (cell_al k2 _))), (cell_far (a := ⟨Q, 3, none⟩) (p := ⟨V.heap.size, 1, none⟩) nQ _).trans ((cell_far (a := ⟨Q, 3, none⟩) (p := ⟨V.heap.size, 0, none⟩) nQ _).trans (cell_be hb5 (cell_al k3 _))), (cell_far (a := ⟨E.gs, j * 2, none⟩) (p := ⟨V.heap.size, 1, none⟩) nS _).trans ((cell_far (a := ⟨E.gs, j * 2, none⟩) (p := ⟨V.heap.size, 0, none⟩) nS _).trans (cell_be hb5 (cell_al u0 _))), (cell_far (a := ⟨E.gs, j * 2 + 1, none⟩) (p := ⟨V.heap.size, 1, none⟩) nS _).trans ((cell_far (a := ⟨E.gs, j * 2 + 1, none⟩) (p := ⟨V.heap.size, 0, none⟩) nS _).trans (cell_be hb5 (cell_al u1 _)))⟩) | go_keep)
            (first | (go_at_call 36; refine (HEff.out _ (by first | exact HV0.out.drew | exact (HV0.out.alloc HV0.out.size _).drew) O oc (by first | exact Kd.C_below HO.out.2 ((Below.refl _ V).drew) | exact Kd.C_below HO.out.2 (((Below.refl _ V).alloc (Nat.le_refl _) _).drew)) HO.out.1).mono ?_; rintro e w5 ⟨v5, rfl, ho5, hb5⟩; obtain ⟨A3, c3, rfl⟩ := own_slice ho5; (try (have rzz := row_kept hb5 (row_drewV (heap_alloc_new V (.cells #[.slice none 0 0, .int .i64 0] 81))); obtain ⟨zz0, zz1⟩ := cells2V rzz; have ff0 := Lib.frozen_of_heap rzz 0; have ff1 := Lib.frozen_of_heap rzz 1))))
          all_goals
            go_wp2_with fail
            go_meet
            case rel =>
              first
              | exact ⟨w5.heap.size, A3, c3, rfl, rfl, ((Below.refl _ V).drew.trans hb5).alloc hb5.size _, heap_alloc_new w5 _, ho5.alloc _⟩
              | exact ⟨V.heap.size, A3, c3, rfl, rfl, below_set2 (((Below.refl _ V).alloc (Nat.le_refl _) _).drew.trans (hb5.mono (by simp))) (Nat.le_refl _) _ _, set2V rzz _ _, row_base (own_set2 ho5 (by simp) _ _) (by simp)⟩
        case rest =>
          obtain ⟨Z, A3, c3, rfl, rfl, hbc, hZ, hown⟩ := hcut
          have hW2 := HWV.out.below hbc
          have hB2 := HV0.out.trans (hbc.mono HV0.out.size)
          have m3 := cell_be hB2 HM.out.m3
          clear y0 y1 y2 k0 k1 k2 k3 u0 u1
          obtain ⟨y0, y1, y2⟩ := cells3V (row_kept hbc HPV.out)
          obtain ⟨k0, k1, k2, k3⟩ := cellsV (row_kept hbc HQV.out)
          obtain ⟨z0, z1⟩ := cells2V hZ
          have t3 : decide (m.f3 < (fl.length : Int)) = false := decide_eq_false (by have := HO2.out; omega)
          have HC := Lib.hid (And.intro hbc (And.intro hZ (And.intro hown (And.intro hW2 hB2))))
          clear hbc hZ hown hW2 hB2
          go_upto_region 19 with fail
          go_quiet (fail)
          go_upto_region 22 with fail
          obtain ⟨V1, hV1⟩ : ∃ V1, wc.drewN nq = V1 := ⟨_, rfl⟩
          have hb1 : Below V.heap.size V V1 := by rw [← hV1]; exact below_drewN0 HC.out.1 nq
          have hz1' : V1.heap[Z]? = some (.cells #[.slice A3 fl.length c3, .int .i64 fh] 81 (0, 0)) := by rw [← hV1]; exact HC.out.2.1
          have ho1 : V1.ownsRow V.heap.size 3 1 (.slice A3 fl.length c3) fl.length (nums .i64 fl) := by rw [← hV1]; exact pw_own_below HC.out.2.2.1 (below_drewN0 (Below.refl _ _) nq)
          rw [hV1]
          have H1 := Lib.hid (And.intro hb1 (And.intro hz1' ho1))
          have HW1 := Lib.hid (HWV.out.below hb1)
          have HB1 := Lib.hid (HV0.out.trans (hb1.mono HV0.out.size))
          have HP1 := Lib.hid (row_kept hb1 HPV.out)
          have HQ1 := Lib.hid (row_kept hb1 HQV.out)
          clear y0 y1 y2 k0 k1 k2 k3 z0 z1 m3 t3 hb1 hz1' ho1 HC hV1
          obtain ⟨k0, k1, k2, k3⟩ := cellsV HQ1.out
          obtain ⟨i0', hi', hz0, hz1, hz2⟩ := info_parts info3V
          obtain ⟨b1, hb1⟩ : ∃ b1, ((rc != 25) && (rc != 28)) = b1 := ⟨_, rfl⟩
          go_cut [120] from 189 (fun s wy => s = .bool b1 ∧ V1 = wy)
          case first =>
            by_cases h25 : rc = 25
            · have q1 : (rc != 25) = false := by simp [h25]
              have e1 : b1 = false := by rw [← hb1, q1]; rfl
              subst e1
              clear h25
              go_wp2_with fail
              go_meet
              case rel => exact ⟨rfl, rfl⟩
            · have q1 : (rc != 25) = true := by simpa using h25
              by_cases h28 : rc = 28
              · have q2 : (rc != 28) = false := by simp [h28]
                have e1 : b1 = false := by rw [← hb1, q1, q2]; rfl
                subst e1
                clear h25 h28
                go_wp2_with fail
                go_meet
                case rel => exact ⟨rfl, rfl⟩
              · have q2 : (rc != 28) = true := by simpa using h28
                have e1 : b1 = true := by rw [← hb1, q1, q2]; rfl
                subst e1
                clear h25 h28
                go_wp2_with fail
                go_meet
                case rel => exact ⟨rfl, rfl⟩
          case rest =>
            obtain ⟨rfl, rfl⟩ := hcut
            obtain ⟨L1, hL1⟩ : ∃ L1 : List Int, (if b1 = true then [(j : Int) + rz] else []) = L1 := ⟨_, rfl⟩
            have rz0 := HG6.out.1
            have rz1 := HG6.out.2
            have ra0 := HG7.out.1
            have ra1 := HG7.out.2
            have HB := Lib.hid hb1
            have HL1 := Lib.hid hL1
            go_upto_if 120 with fail
            go_cut [13] from 189 (fun s wy => wy.ownsRow V1.heap.size 3 1 s L1.length (nums .i64 L1) ∧ Below V1.heap.size V1 wy)
            case first =>
              cases b1 with
              | false =>
                have e1 : L1 = [] := by rw [← hL1]; rfl
                subst e1
                clear hb1 hL1
                go_wp2_with fail
                go_meet
                case rel => exact ⟨World.ownsRow_nil _ _ _ _, Below.refl _ _⟩
              | true =>
                have e1 : L1 = [(j : Int) + rz] := by rw [← hL1]; rfl
                subst e1
                clear hb1 hL1
                go_wp2_with (at_builtin; refine wpList_append_own _ rfl _ _ 33 rfl V1.heap.size 3 i0' (.int .i64 0) 1 8 Tryd.underlying33 hi' hz0 hz1 hz2 rfl (by decide) _ _ _ rfl (World.ownsRow_nil _ _ _ _) ⟨V1.heap.size, 0, none⟩ 1 1 [.int .i64 ((j : Int) + rz)] rfl rfl (cell_one_new _ _ _) (by simp [Value.oneCell']) (by decide) (by decide) (by simp) ?_; intro v' w1 hown' hgrow _)
                go_wp2_with fail
                go_meet
                case rel => exact ⟨hown', app_below (e := 3) (size := 1) (World.ownsRow_nil _ _ _ _) (Nat.le_refl _) hgrow⟩
            case rest =>
              obtain ⟨hon1, hbn1⟩ := hcut
              obtain ⟨W2, rfl⟩ : ∃ W2, W2 = wc := ⟨wc, rfl⟩
              clear k0 k1 k2 k3
              obtain ⟨k0, k1, k2, k3⟩ := cellsV (row_kept hbn1 HQ1.out)
              have hL1l : L1.length ≤ 1 := by rw [← HL1.out]; split <;> simp
              have HN1 := Lib.hid hon1
              have HBN1 := Lib.hid hbn1
              have HL1l := Lib.hid hL1l
              clear hon1 hbn1 hL1l hb1 hL1
              go_upto_region 24 with fail
              obtain ⟨b2, hb2⟩ : ∃ b2, ((rc == 25) || (rc == 26)) = b2 := ⟨_, rfl⟩
              go_cut [135] from 189 (fun s wy => s = .bool b2 ∧ W2 = wy)
              case first =>
                by_cases h25 : rc = 25
                · have q1 : (rc == 25) = true := by simp [h25]
                  have e1 : b2 = true := by rw [← hb2, q1]; rfl
                  subst e1
                  clear h25
                  go_wp2_with fail
                  go_meet
                  case rel => exact ⟨rfl, rfl⟩
                · have q1 : (rc == 25) = false := by simpa using h25
                  by_cases h26 : rc = 26
                  · have q2 : (rc == 26) = true := by simp [h26]
                    have e1 : b2 = true := by rw [← hb2, q1, q2]; rfl
                    subst e1
                    clear h25 h26
                    go_wp2_with fail
                    go_meet
                    case rel => exact ⟨rfl, rfl⟩
                  · have q2 : (rc == 26) = false := by simpa using h26
                    have e1 : b2 = false := by rw [← hb2, q1, q2]; rfl
                    subst e1
                    clear h25 h26
                    go_wp2_with fail
                    go_meet
                    case rel => exact ⟨rfl, rfl⟩
              case rest =>
                obtain ⟨rfl, rfl⟩ := hcut
                obtain ⟨L2, hL2⟩ : ∃ L2 : List Int, (L1 ++ if b2 = true then [(j : Int) + ra] else []) = L2 := ⟨_, rfl⟩
                have HB' := Lib.hid hb2
                have HL2 := Lib.hid hL2
                have hs2 := HBN1.out.size
                have hl1 := HL1l.out
                go_upto_if 135 with fail
                go_cut [13] from 189 (fun s wy => wy.ownsRow V1.heap.size 3 1 s L2.length (nums .i64 L2) ∧ Below V1.heap.size V1 wy)
                case first =>
                  cases b2 with
                  | false =>
                    have e1 : L2 = L1 := by rw [← hL2]; simp
                    subst e1
                    clear hb2 hL2
                    go_wp2_with fail
                    go_meet
                    case rel => exact ⟨HN1.out, HBN1.out⟩
                  | true =>
                    have e1 : L2 = L1 ++ [(j : Int) + ra] := by rw [← hL2]; simp
                    subst e1
                    clear hb2 hL2
                    go_wp2_with (at_builtin; refine wpList_append_own _ rfl _ _ 33 rfl V1.heap.size 3 i0' (.int .i64 0) 1 8 Tryd.underlying33 hi' hz0 hz1 hz2 rfl (by decide) _ _ _ rfl (HN1.out.alloc _) ⟨W2.heap.size, 0, none⟩ 1 1 [.int .i64 ((j : Int) + ra)] rfl rfl (cell_one_new _ _ _) (by simp [Value.oneCell']) (by unfold maxLen; omega) (by omega) (by simp; omega) ?_; intro v' w1 hown' hgrow _)
                    go_wp2_with fail
                    go_meet
                    case rel =>
                      refine ⟨?_, HBN1.out.trans ((app_below HN1.out hs2 hgrow))⟩
                      have e : nums .i64 (L1 ++ [(j : Int) + ra]) = nums .i64 L1 ++ [.int .i64 ((j : Int) + ra)] := by simp [nums]
                      rw [e, List.length_append]
                      exact hown'
                case rest =>
                  obtain ⟨hon2, hbn2⟩ := hcut
                  obtain ⟨An, cn, rfl⟩ := own_slice hon2
                  have hCn := RI_own hon2
                  have hL2l : L2.length ≤ 2 := by rw [← HL2.out]; split <;> simp <;> omega
                  have hall : ∀ x ∈ L2, ∃ q : Nat, x = q ∧ q < m.f4.length ∧ has.getD q false = true ∧ sh.getD q ([], 0) = (fl, fh) := by
                    intro x hx
                    rw [← HL2.out] at hx
                    rcases List.mem_append.1 hx with hx | hx
                    · rw [← HL1.out] at hx
                      by_cases hbb : b1 = true
                      · rw [if_pos hbb] at hx
                        have hx := List.mem_singleton.1 hx
                        have hcc := HB.out
                        rw [hbb] at hcc
                        simp at hcc
                        obtain ⟨a1, a2, a3⟩ := HO3.out hcc.1 hcc.2
                        exact ⟨j + rz.toNat, by omega, a1, a2, a3⟩
                      · rw [if_neg hbb] at hx; simp at hx
                    · by_cases hbb : b2 = true
                      · rw [if_pos hbb] at hx
                        have hx := List.mem_singleton.1 hx
                        have hcc := HB'.out
                        rw [hbb] at hcc
                        simp at hcc
                        obtain ⟨a2, a3⟩ := HO4.out hcc
                        have h5 := HG5.out hcc
                        exact ⟨((j : Int) + ra).toNat, by omega, by rw [← HCl.out.inv.lh]; exact has_lt a2, a2, a3⟩
                      · rw [if_neg hbb] at hx; simp at hx
                  have HAll := Lib.hid hall
                  have HN2 := Lib.hid (And.intro hbn2 hCn)
                  have HL2l := Lib.hid hL2l
                  clear hall hbn2 hCn hon2 hb2 hL2 hL2l k0 k1 k2 k3
                  go_wp2_with fail
                  go_loopg [14] L2.length (fun g2 s14 wz => ∃ i : Nat, i + g2 = L2.length ∧ s14 = .int .i64 i ∧ Hid (Below V1.heap.size V1 wz ∧ Kd.C (Kd.int .i64) wz An L2.length L2))
                  case atStart => exact ⟨0, by omega, rfl, HN2⟩
                  case round =>
                    obtain ⟨i, hig, rfl, HI⟩ := hrel
                    have hl2 := HL2l.out
                    cases gk with
                    | zero =>
                      have ht : decide ((i : Int) < (L2.length : Int)) = false := by simp; omega
                      go_wp2_with fail
                      go_roundg g
                      case measure => omega
                      case rel => exact ⟨j + 1, by omega, by first | rfl | simp, Lib.hid ⟨HB1.out.trans (HI.out.1.mono HB1.out.size), HW1.out.below HI.out.1, row_kept HI.out.1 HP1.out⟩⟩
                    | succ g2 =>
                      have hi : i < L2.length := by omega
                      have ht : decide ((i : Int) < (L2.length : Int)) = true := by simp; omega
                      have n0 : (0 : Int) ≤ (i : Int) := by omega
                      have n1 : (i : Int) < (L2.length : Int) := by omega
                      obtain ⟨adn, rfl, hcn⟩ := Kd.at_int HI.out.2 i n0 n1
                      rw [Int.toNat_natCast] at hcn
                      have hmem : rd L2 i ∈ L2 := by
                        unfold rd
                        exact getD_in (by rw [Int.toNat_natCast]; exact hi)
                      obtain ⟨q, hxq, hqn, hqh, hqs⟩ := HAll.out _ hmem
                      rw [hxq] at hcn
                      have wk := HW1.out.below HI.out.1
                      have xh := cell_bools wk.hh q (by rw [wk.lh, HEn.out]; exact hqn)
                      rw [hqh] at xh
                      obtain ⟨O2, oc2, v0, v1, hoc2, hO2⟩ := shape_at wk q (by rw [HEn.out]; exact hqn)
                      rw [hqs] at v0 v1 hoc2 hO2
                      dsimp only at v0 v1 hoc2 hO2
                      obtain ⟨z0, z1⟩ := cells2V (row_kept HI.out.1 H1.out.2.1)
                      have hown3 := pw_own_below H1.out.2.2 HI.out.1
                      have hC3 := RI_own hown3
                      have hle3 : fl.length ≤ c3 := by obtain ⟨A', c', e', hle', -⟩ := RI.of_own hown3; injection e' with _ _ e3; omega
                      have hfl : fl.length ≤ 40 := by have := HO2.out; have := HZ.out.2.1.2; omega
                      have hIn : ∀ kk, Calls Tryd.prog 35 #[.slice O2 fl.length oc2, .slice A3 fl.length c3] (wr.drewN kk) fun e w' => e = .returned (.bool true) ∧ ∃ mm, w' = (wr.drewN kk).drewN mm := fun kk => by
                        have := ints_calls (c := oc2) (d := c3) (Kd.C_drewN hO2 kk) hoc2 (Kd.C_drewN hC3 kk) hle3 (by omega)
                        rw [decide_eq_true rfl] at this
                        exact this.mono fun e w' h => ⟨h.1, h.2.out⟩
                      have q0 : (0 : Int) ≤ (q : Int) := by omega
                      have q1 : (q : Int) < (m.f4.length : Int) := by omega
                      have q2 : decide ((m.f4.length : Int) ≤ (q : Int)) = false := decide_eq_false (by omega)
                      have q3 : decide (m.f4.length ≤ q) = false := decide_eq_false (by omega)
                      have q4 : ¬ (m.f4.length ≤ q) := by omega
                      have HIn := Lib.hid hIn
                      clear hIn hO2 hoc2 hC3 hle3 hfl wk hqs hqh hqn hxq hmem hown3
                      go_upto_region 30 with fail
                      go_quiet (first | (go_at_call 35; exact Calls.quiet_of (HIn.out _)))
                      go_wp2_with fail
                      go_roundg g2
                      case measure => omega
                      case rel => exact ⟨i + 1, by omega, by first | rfl | simp, Lib.hid ⟨below_drewN0 HI.out.1 _, Kd.C_drewN HI.out.2 _⟩⟩
end
end Go.Proofs.YtkphijabhoppnaaDoor
