/- VerifyMethods walked. -/
import Derived.Test.YtkphijabhoppnaaDoorAYj
import Derived.Test.YtkphijabhoppnaaDoorAVy
import Derived.Test.YtkphijabhoppnaaDoorAVw
import Derived.Test.YtkphijabhoppnaaDoorAXa
import Derived.BigQuiet
import Derived.Deep.LoopGhost
namespace Go.Proofs.YtkphijabhoppnaaDoor
open Go.RowKit Go.Proofs.YtkphijabhoppnaaDoorW.PrintWords
set_option linter.unusedSimpArgs false
set_option linter.unusedVariables false
section
variable {w : World} {A0 A1 A2 : Option Addr} {c0 c1 c2 : Nat} {p : Pg}
theorem rrun_calls (hp : PgX w A0 c0 A1 c1 A2 c2 p) (hf : FewPar p) (m : Int) :
    Calls Tryd.prog 57 #[.agg #[.slice A0 p.pool.length c0, .slice A1 p.classes.length c1, .slice A2 p.methods.length c2], .int .i64 m] w (RunPost w p m) := by
  by_cases hx : m < 0 ∨ (p.methods.length : Int) ≤ m ∨ checkS p ≠ 0
  · have e : mthS p m = (0, 1) := by unfold mthS; rw [if_pos hx]
    refine (rrun_bad hp m hx).mono ?_
    rintro e' w' ⟨rfl, hb⟩
    exact ⟨_, by rw [e], hb, fun h => by rw [e] at h; simp at h⟩
  · obtain ⟨k, rfl⟩ : ∃ k : Nat, m = k := ⟨m.toNat, by omega⟩
    have e : mthS p k = (methodS p (methS p k)).1 := by unfold mthS; rw [if_neg hx]
    unfold RunPost
    rw [e]
    exact rrun_good hp hf k (by omega) (by omega)
set_option maxRecDepth 100000 in
theorem rMethod_calls (hp : PgX w A0 c0 A1 c1 A2 c2 p) (hf : FewPar p) (m : Int) :
    Calls Tryd.prog 30 #[.agg #[.slice A0 p.pool.length c0, .slice A1 p.classes.length c1, .slice A2 p.methods.length c2], .int .i64 m] w (MePost w (mthS p m)) := by
  have hA : Below w.heap.size w (w.alloc (obP A0 c0 A1 c1 A2 c2 p)) := (Below.refl _ w).alloc (Nat.le_refl _) _
  have hR := rrun_calls (hp.below hA) hf m
  unfold RunPost at hR
  obtain ⟨⟨ra, re⟩, hr⟩ : ∃ r, mthS p m = r := ⟨_, rfl⟩
  rw [hr] at hR ⊢
  dsimp only at hR
  have HA := Lib.hid hA
  have HR := Lib.hid hR
  clear hA hR hp hf hr
  go_enter Tryd.func30, Tryd.ntmps30
  go_wp2_with (first | (go_at_call 57; refine HR.out.mono ?_; rintro e w1 ⟨v, rfl, hb1, -⟩))
  go_ret2
  exact ⟨rfl, HA.out.trans (hb1.mono HA.out.size)⟩
set_option maxRecDepth 100000 in
set_option maxHeartbeats 1600000 in
theorem rProgram_calls (hp : PgX w A0 c0 A1 c1 A2 c2 p) (hf : FewPar p) :
    Calls Tryd.prog 32 #[.agg #[.slice A0 p.pool.length c0, .slice A1 p.classes.length c1, .slice A2 p.methods.length c2]] w (PrPost w (progS p)) := by
  have hA : Below w.heap.size w (w.alloc (obP A0 c0 A1 c1 A2 c2 p)) := (Below.refl _ w).alloc (Nat.le_refl _) _
  have hrow := heap_alloc_new w (obP A0 c0 A1 c1 A2 c2 p)
  have hC := rcheck_calls (hp.below hA).pg hp.small
  obtain ⟨r, hr⟩ : ∃ r, progS p = r := ⟨_, rfl⟩
  rw [hr]
  unfold progS at hr
  obtain ⟨ch, hch⟩ : ∃ ch, checkS p = ch := ⟨_, rfl⟩
  rw [hch] at hC hr
  have HA := Lib.hid hA
  have HR := Lib.hid hrow
  have HC := Lib.hid hC
  clear hA hrow hC
  by_cases h0 : ch = 0
  · subst h0
    rw [if_neg (by simp)] at hr
    have hk : p.methods.length ≤ 100 := (check_sizes hch).2.2.2.2
    have hme : ∀ (k : Nat) (V : World), k < p.methods.length → Below w.heap.size w V → Calls Tryd.prog 57 #[.agg #[.slice A0 p.pool.length c0, .slice A1 p.classes.length c1, .slice A2 p.methods.length c2], .int .i64 k] V fun e w' => ∃ v, e = .returned (.tuple #[v, .int .i64 (methodS p (methS p k)).1.1, .int .i64 (methodS p (methS p k)).1.2]) ∧ Below V.heap.size V w' := fun k V hk hV => by
      refine (rrun_good (hp.below hV) hf k hk hch).mono ?_
      rintro e w' ⟨v, rfl, hb, -⟩
      exact ⟨v, rfl, hb⟩
    have HM := Lib.hid hme
    have HRR := Lib.hid hr
    have HK := Lib.hid hk
    clear hme hr hp hf hch hk
    go_enter Tryd.func32, Tryd.ntmps32
    go_wp2_with (first | (go_at_call 58; refine HC.out.mono ?_; rintro e w1 ⟨rfl, hb1⟩; obtain ⟨y0, y1, y2⟩ := cells3V (row_kept hb1 HR.out); have B1 := Lib.hid (HA.out.trans (hb1.mono HA.out.size)); have R1 := Lib.hid (row_kept hb1 HR.out); clear hb1))
    clear y0 y1 y2
    go_loopg [6] p.methods.length (fun g s6 wx => ∃ j : Nat, j + g = p.methods.length ∧ s6 = .int .i64 j ∧ Hid (progFrom p (p.methods.drop j) j = r ∧ Below w.heap.size w wx ∧ wx.heap[w.heap.size]? = some (obP A0 c0 A1 c1 A2 c2 p)))
    case atStart => exact ⟨0, by omega, rfl, Lib.hid ⟨HRR.out, B1.out, R1.out⟩⟩
    case round =>
      obtain ⟨j, hjg, rfl, HJ⟩ := hrel
      have hk := HK.out
      obtain ⟨y0, y1, y2⟩ := cells3V HJ.out.2.2
      cases gk with
      | zero =>
        have ht : decide ((j : Int) < (p.methods.length : Int)) = false := by simp; omega
        have htn : decide (j < p.methods.length) = false := decide_eq_false (by omega)
        have hans := HJ.out.1
        rw [List.drop_eq_nil_of_le (by omega), progFrom] at hans
        subst hans
        go_wp2_with fail
        try rw [Exit.noGoto_ret]
        refine bodyPost_ret (results_tmp3 (fn := Tryd.f32) rfl _ _ _) rfl ?_
        exact ⟨rfl, HJ.out.2.1⟩
      | succ g =>
        have hj : j < p.methods.length := by omega
        have ht : decide ((j : Int) < (p.methods.length : Int)) = true := by simp; omega
        have hans := HJ.out.1
        rw [List.drop_eq_getElem_cons hj, progFrom] at hans
        have em : methS p j = p.methods[j] := meth_at p j hj
        rw [← em] at hans
        have hM := HM.out j _ hj HJ.out.2.1
        obtain ⟨⟨⟨ra, re⟩, rs⟩, hq⟩ : ∃ q, methodS p (methS p j) = q := ⟨_, rfl⟩
        rw [hq] at hM hans
        dsimp only at hM hans
        have HMM := Lib.hid hM
        clear hM em hq
        by_cases h1 : re = 0
        · subst h1
          rw [if_neg (by simp)] at hans
          have HAN := Lib.hid hans
          clear hans
          go_wp2_with (first | (go_at_call 57; refine HMM.out.mono ?_; rintro e w2 ⟨v, rfl, hb2⟩))
          go_roundg g
          case measure => omega
          case rel => exact ⟨j + 1, by omega, by first | rfl | simp, Lib.hid ⟨by rw [← HAN.out]; rfl, HJ.out.2.1.trans (hb2.mono HJ.out.2.1.size), row_kept hb2 HJ.out.2.2⟩⟩
        · rw [if_pos h1] at hans
          subst hans
          have t1 : (re != 0) = true := by simpa using h1
          clear h1
          go_wp2_with (first | (go_at_call 57; refine HMM.out.mono ?_; rintro e w2 ⟨v, rfl, hb2⟩))
          try rw [Exit.noGoto_ret]
          refine bodyPost_ret (results_tmp3 (fn := Tryd.f32) rfl _ _ _) rfl ?_
          exact ⟨rfl, HJ.out.2.1.trans (hb2.mono HJ.out.2.1.size)⟩
  · rw [if_pos h0] at hr
    subst hr
    have t1 : (ch != 0) = true := by simpa using h0
    clear h0 hp hf hch
    go_enter Tryd.func32, Tryd.ntmps32
    go_wp2_with (first | (go_at_call 58; refine HC.out.mono ?_; rintro e w1 ⟨rfl, hb1⟩))
    refine bodyPost_ret (results_tmp3 (fn := Tryd.f32) rfl _ _ _) rfl ?_
    exact ⟨rfl, HA.out.trans (hb1.mono HA.out.size)⟩
set_option maxRecDepth 100000 in
theorem rshapes_err (hp : PgX w A0 c0 A1 c1 A2 c2 p) (hf : FewPar p) (m : Int) (h : (mthS p m).2 ≠ 0) :
    Calls Tryd.prog 34 #[.agg #[.slice A0 p.pool.length c0, .slice A1 p.classes.length c1, .slice A2 p.methods.length c2], .int .i64 m] w
      fun e w' => e = .returned (.tuple #[.slice none 0 0, .slice none 0 0, .int .i64 (mthS p m).2]) ∧ Below w.heap.size w w' := by
  have hA : Below w.heap.size w (w.alloc (obP A0 c0 A1 c1 A2 c2 p)) := (Below.refl _ w).alloc (Nat.le_refl _) _
  have hR := rrun_calls (hp.below hA) hf m
  unfold RunPost at hR
  obtain ⟨⟨ra, re⟩, hr⟩ : ∃ r, mthS p m = r := ⟨_, rfl⟩
  rw [hr] at hR h ⊢
  dsimp only at hR h
  have t1 : (re != 0) = true := by simpa using h
  have HA := Lib.hid hA
  have HR := Lib.hid hR
  clear hA hR hp hf hr h
  go_enter Tryd.func34, Tryd.ntmps34
  go_wp2_with (first | (go_at_call 57; refine HR.out.mono ?_; rintro e w1 ⟨v, rfl, hb1, -⟩))
  refine bodyPost_ret (results_tmp3 (fn := Tryd.f34) rfl _ _ _) rfl ?_
  exact ⟨rfl, HA.out.trans (hb1.mono HA.out.size)⟩
set_option maxRecDepth 100000 in
set_option maxHeartbeats 1600000 in
theorem rshapes_ok (hp : PgX w A0 c0 A1 c1 A2 c2 p) (hf : FewPar p) (m : Int) (h : (mthS p m).2 = 0) :
    Calls Tryd.prog 34 #[.agg #[.slice A0 p.pool.length c0, .slice A1 p.classes.length c1, .slice A2 p.methods.length c2], .int .i64 m] w
      fun e w' => ∃ (L : Loc) (n : Nat) (gone : List Bool), e = .returned (.tuple #[.slice (some ⟨L.gs, 0, none⟩) n n, .slice (some ⟨L.gh, 0, none⟩) n n, .int .i64 0]) ∧ Below w.heap.size w w' ∧
        n = (methS p m).f4.length ∧ StI L n w.heap.size w' (methodS p (methS p m)).2.1 (methodS p (methS p m)).2.2 gone := by
  have hA : Below w.heap.size w (w.alloc (obP A0 c0 A1 c1 A2 c2 p)) := (Below.refl _ w).alloc (Nat.le_refl _) _
  have hR := rrun_calls (hp.below hA) hf m
  unfold RunPost at hR
  obtain ⟨⟨ra, re⟩, hr⟩ : ∃ r, mthS p m = r := ⟨_, rfl⟩
  rw [hr] at hR h
  dsimp only at hR h
  subst h
  obtain ⟨n, hn⟩ : ∃ n, (methS p m).f4.length = n := ⟨_, rfl⟩
  obtain ⟨⟨⟨qa, qe⟩, sh, has⟩, hq⟩ : ∃ r, methodS p (methS p m) = r := ⟨_, rfl⟩
  rw [hn, hq] at hR
  rw [hn, hq]
  dsimp only at hR ⊢
  have HA := Lib.hid hA
  have HR := Lib.hid hR
  clear hA hR hp hf hr hq hn
  go_enter Tryd.func34, Tryd.ntmps34
  go_upto_region 4 with (first | (go_at_call 57; refine HR.out.mono ?_; rintro e w1 ⟨v, rfl, hb1, hL⟩; obtain ⟨L, gone, rfl, hW⟩ := hL rfl; obtain ⟨x0, x1, x2⟩ := cells3V hW.blk; have HE := Lib.hid (And.intro hb1 hW); clear hb1 hW hL))
  go_quiet (fail)
  all_goals go_wp2_with fail
  obtain ⟨hb1, hW⟩ := HE.out
  have hbb := HA.out.trans (hb1.mono HA.out.size)
  have hWl := hW.lower HA.out.size
  refine bodyPost_ret (results_tmp3 (fn := Tryd.f34) rfl _ _ _) rfl ?_
  refine ⟨L, n, gone, rfl, ?_, rfl, ?_⟩
  · first | exact hbb | exact hbb.drew | exact below_drewN0 hbb _
  · first | exact hWl | exact hWl.below ((Below.refl _ _).drew) | exact hWl.below (below_drewN0 (Below.refl _ _) _)
end
end Go.Proofs.YtkphijabhoppnaaDoor
namespace Go.Proofs.YtkphijabhoppnaaDoor
open Go.RowKit Go.Proofs.YtkphijabhoppnaaDoorW.PrintWords
set_option linter.unusedSimpArgs false
set_option linter.unusedVariables false
def LawPost (w : World) (e : Ending) (w' : World) : Prop := e = .returned (.bool true) ∧ Below w.heap.size w w'
theorem same_from (l : List Int) (hl : l.length ≤ 9223372036854775807) : ∀ (d i k : Nat), i + d = l.length → d < k → PVerifyMethods.brazierlaw15_ints.l0 k l l i = some true := by
  intro d
  induction d with
  | zero =>
    intro i k hi hk
    obtain ⟨k, rfl⟩ : ∃ q, k = q + 1 := ⟨k - 1, by omega⟩
    rw [PVerifyMethods.brazierlaw15_ints.l0, if_neg (by omega)]
  | succ d ih =>
    intro i k hi hk
    obtain ⟨k, rfl⟩ : ∃ q, k = q + 1 := ⟨k - 1, by omega⟩
    have e1 : wrap64 ((i : Int) + 1) = ((i + 1 : Nat) : Int) := by rw [w64v _ (by omega)]; omega
    rw [PVerifyMethods.brazierlaw15_ints.l0, if_pos (by omega), if_pos (by omega), if_pos (by omega), if_pos rfl, e1, ih (i + 1) k (by omega) (by omega)]
theorem same_calls {w : World} {A B : Option Addr} {c d : Nat} {l : List Int} (h1 : Kd.C (Kd.int .i64) w A l.length l) (h1c : l.length ≤ c) (h2 : Kd.C (Kd.int .i64) w B l.length l) (h2c : l.length ≤ d) :
    Calls Tryd.prog 35 #[.slice A l.length c, .slice B l.length d] w fun e w' => e = .returned (.bool true) ∧ ∃ k, w' = w.drewN k := by
  refine (PVerifyMethods.brazierlaw15_ints.calls (l.length + 1) A c l B d l true w h1 h1c h2 h2c ?_).mono fun e w' h => ⟨h.1, h.2.out⟩
  unfold PVerifyMethods.brazierlaw15_ints.f
  rw [if_pos rfl, show (0 : Int) = ((0 : Nat) : Int) from rfl, same_from l (C_len h1) l.length 0 _ (by omega) (by omega)]
section
variable {w : World} {A0 A1 A2 : Option Addr} {c0 c1 c2 : Nat} {p : Pg}
set_option maxRecDepth 100000 in
set_option maxHeartbeats 1600000 in
theorem methodsLaw_many (hp : PgX w A0 c0 A1 c1 A2 c2 p) (hG : Glob w) (m : Int) (h : fewS p = false) :
    Calls Tryd.prog 7 #[.agg #[.slice A0 p.pool.length c0, .slice A1 p.classes.length c1, .slice A2 p.methods.length c2], .int .i64 m] w (LawPost w) := by
  have hA : Below w.heap.size w (w.alloc (obP A0 c0 A1 c1 A2 c2 p)) := (Below.refl _ w).alloc (Nat.le_refl _) _
  have hrow := heap_alloc_new w (obP A0 c0 A1 c1 A2 c2 p)
  have hK := known15 _ (hG.below hA)
  have hF : ∀ V, Below w.heap.size w V → Calls Tryd.prog 28 #[.agg #[.slice A0 p.pool.length c0, .slice A1 p.classes.length c1, .slice A2 p.methods.length c2]] V fun e w' => e = .returned (.bool false) ∧ Below V.heap.size V w' := fun V hV => by
    have := few_calls (hp.below hV).pg hp.small
    rwa [h] at this
  have HA := Lib.hid hA
  have HR := Lib.hid hrow
  have HF := Lib.hid hF
  clear hA hrow hF hp hG h
  go_enter Tryd.func7, Tryd.ntmps7
  go_wp2_with (first | (go_at_call 27; refine hK.mono ?_; rintro e w1 ⟨rfl, hb1⟩; obtain ⟨y0, y1, y2⟩ := cells3V (row_kept hb1 HR.out); have B1 := Lib.hid (HA.out.trans (hb1.mono HA.out.size)); clear hb1) | (go_at_call 28; refine (HF.out _ B1.out).mono ?_; rintro e w2 ⟨rfl, hb2⟩))
  go_ret
  exact ⟨rfl, B1.out.trans (hb2.mono B1.out.size)⟩
set_option maxRecDepth 100000 in
set_option maxHeartbeats 3200000 in
theorem methodsLaw_bad (hp : PgX w A0 c0 A1 c1 A2 c2 p) (hG : Glob w) (m : Int) (h : fewS p = true) (hm : (mthS p m).2 ≠ 0) :
    Calls Tryd.prog 7 #[.agg #[.slice A0 p.pool.length c0, .slice A1 p.classes.length c1, .slice A2 p.methods.length c2], .int .i64 m] w (LawPost w) := by
  have hA : Below w.heap.size w (w.alloc (obP A0 c0 A1 c1 A2 c2 p)) := (Below.refl _ w).alloc (Nat.le_refl _) _
  have hrow := heap_alloc_new w (obP A0 c0 A1 c1 A2 c2 p)
  have hK := known15 _ (hG.below hA)
  have hf := few_par h
  have hF : ∀ V, Below w.heap.size w V → Calls Tryd.prog 28 #[.agg #[.slice A0 p.pool.length c0, .slice A1 p.classes.length c1, .slice A2 p.methods.length c2]] V fun e w' => e = .returned (.bool true) ∧ Below V.heap.size V w' := fun V hV => by
    have := few_calls (hp.below hV).pg hp.small
    rwa [h] at this
  have hM := fun V (hV : Below w.heap.size w V) => Method_calls (hp.below hV) (hG.below hV) hf m
  have hM2 := fun V (hV : Below w.heap.size w V) => rMethod_calls (hp.below hV) hf m
  have hP := fun V (hV : Below w.heap.size w V) => Program_calls (hp.below hV) (hG.below hV) hf
  have hP2 := fun V (hV : Below w.heap.size w V) => rProgram_calls (hp.below hV) hf
  have hS := fun V (hV : Below w.heap.size w V) => shapes_err (hp.below hV) (hG.below hV) hf m hm
  have hS2 := fun V (hV : Below w.heap.size w V) => rshapes_err (hp.below hV) hf m hm
  obtain ⟨⟨ra, re⟩, hr⟩ : ∃ r, mthS p m = r := ⟨_, rfl⟩
  obtain ⟨⟨pa, pb, pc⟩, hpr⟩ : ∃ r, progS p = r := ⟨_, rfl⟩
  rw [hr] at hM hM2 hS hS2
  rw [hpr] at hP hP2
  dsimp only at hS hS2
  have u1 : (ra != ra) = false := by simp
  have u2 : (re != re) = false := by simp
  have u3 : (pa != pa) = false := by simp
  have u4 : (pb != pb) = false := by simp
  have u5 : (pc != pc) = false := by simp
  have HA := Lib.hid hA
  have HR := Lib.hid hrow
  have HF := Lib.hid hF
  have HM := Lib.hid hM
  have HM2 := Lib.hid hM2
  have HP := Lib.hid hP
  have HP2 := Lib.hid hP2
  have HS := Lib.hid hS
  have HS2 := Lib.hid hS2
  clear hA hrow hF hp hG h hM hM2 hP hP2 hS hS2 hm hr hpr hf
  go_enter Tryd.func7, Tryd.ntmps7
  go_wp2_with (first | (go_at_call 27; refine hK.mono ?_; rintro e w1 ⟨rfl, hb1⟩; obtain ⟨y0, y1, y2⟩ := cells3V (row_kept hb1 HR.out); have B1 := Lib.hid (HA.out.trans (hb1.mono HA.out.size)); have R1 := Lib.hid (row_kept hb1 HR.out); clear hb1) | (go_at_call 28; refine (HF.out _ B1.out).mono ?_; rintro e w2 ⟨rfl, hb2⟩; clear y0 y1 y2; obtain ⟨y0, y1, y2⟩ := cells3V (row_kept hb2 R1.out); have B2 := Lib.hid (B1.out.trans (hb2.mono B1.out.size)); have R2 := Lib.hid (row_kept hb2 R1.out); clear hb2) | (go_at_call 29; refine (HM.out _ B2.out).mono ?_; rintro e w3 ⟨rfl, hb3⟩; clear y0 y1 y2; obtain ⟨y0, y1, y2⟩ := cells3V (row_kept hb3 R2.out); have B3 := Lib.hid (B2.out.trans (hb3.mono B2.out.size)); have R3 := Lib.hid (row_kept hb3 R2.out); clear hb3) | (go_at_call 30; refine (HM2.out _ B3.out).mono ?_; rintro e w4 ⟨rfl, hb4⟩; clear y0 y1 y2; obtain ⟨y0, y1, y2⟩ := cells3V (row_kept hb4 R3.out); have B4 := Lib.hid (B3.out.trans (hb4.mono B3.out.size)); have R4 := Lib.hid (row_kept hb4 R3.out); clear hb4) | (go_at_call 31; refine (HP.out _ B4.out).mono ?_; rintro e w5 ⟨rfl, hb5⟩; clear y0 y1 y2; obtain ⟨y0, y1, y2⟩ := cells3V (row_kept hb5 R4.out); have B5 := Lib.hid (B4.out.trans (hb5.mono B4.out.size)); have R5 := Lib.hid (row_kept hb5 R4.out); clear hb5) | (go_at_call 32; refine (HP2.out _ B5.out).mono ?_; rintro e w6 ⟨rfl, hb6⟩; clear y0 y1 y2; obtain ⟨y0, y1, y2⟩ := cells3V (row_kept hb6 R5.out); have B6 := Lib.hid (B5.out.trans (hb6.mono B5.out.size)); have R6 := Lib.hid (row_kept hb6 R5.out); clear hb6) | (go_at_call 33; refine (HS.out _ B6.out).mono ?_; rintro e w7 ⟨rfl, hb7⟩; clear y0 y1 y2; obtain ⟨y0, y1, y2⟩ := cells3V (row_kept hb7 R6.out); have B7 := Lib.hid (B6.out.trans (hb7.mono B6.out.size)); have R7 := Lib.hid (row_kept hb7 R6.out); clear hb7) | (go_at_call 34; refine (HS2.out _ B7.out).mono ?_; rintro e w8 ⟨rfl, hb8⟩; clear y0 y1 y2; obtain ⟨y0, y1, y2⟩ := cells3V (row_kept hb8 R7.out); have B8 := Lib.hid (B7.out.trans (hb8.mono B7.out.size)); have R8 := Lib.hid (row_kept hb8 R7.out); clear hb8))
  clear y0 y1 y2
  go_loopg [17] 0 (fun g s17 wx => ∃ j : Nat, j + g = 0 ∧ s17 = .int .i64 j ∧ wx = w8)
  case atStart => exact ⟨0, by omega, rfl, rfl⟩
  case round =>
    obtain ⟨j, hjg, rfl, rfl⟩ := hrel
    cases gk with
    | succ g => omega
    | zero =>
      have ht : decide ((j : Int) < 0) = false := decide_eq_false (by omega)
      go_wp2_with fail
      try rw [Exit.noGoto_ret]
      go_ret
      exact ⟨rfl, B8.out⟩
set_option maxRecDepth 100000 in
set_option maxHeartbeats 3200000 in
theorem methodsLaw_ok (hp : PgX w A0 c0 A1 c1 A2 c2 p) (hG : Glob w) (m : Int) (h : fewS p = true) (hm : (mthS p m).2 = 0) :
    Calls Tryd.prog 7 #[.agg #[.slice A0 p.pool.length c0, .slice A1 p.classes.length c1, .slice A2 p.methods.length c2], .int .i64 m] w (LawPost w) := by
  have hA : Below w.heap.size w (w.alloc (obP A0 c0 A1 c1 A2 c2 p)) := (Below.refl _ w).alloc (Nat.le_refl _) _
  have hrow := heap_alloc_new w (obP A0 c0 A1 c1 A2 c2 p)
  have hK := known15 _ (hG.below hA)
  have hf := few_par h
  have hF : ∀ V, Below w.heap.size w V → Calls Tryd.prog 28 #[.agg #[.slice A0 p.pool.length c0, .slice A1 p.classes.length c1, .slice A2 p.methods.length c2]] V fun e w' => e = .returned (.bool true) ∧ Below V.heap.size V w' := fun V hV => by
    have := few_calls (hp.below hV).pg hp.small
    rwa [h] at this
  have hM := fun V (hV : Below w.heap.size w V) => Method_calls (hp.below hV) (hG.below hV) hf m
  have hM2 := fun V (hV : Below w.heap.size w V) => rMethod_calls (hp.below hV) hf m
  have hP := fun V (hV : Below w.heap.size w V) => Program_calls (hp.below hV) (hG.below hV) hf
  have hP2 := fun V (hV : Below w.heap.size w V) => rProgram_calls (hp.below hV) hf
  have hS := fun V (hV : Below w.heap.size w V) => shapes_ok (hp.below hV) (hG.below hV) hf m hm
  have hS2 := fun V (hV : Below w.heap.size w V) => rshapes_ok (hp.below hV) hf m hm
  obtain ⟨⟨ra, re⟩, hr⟩ : ∃ r, mthS p m = r := ⟨_, rfl⟩
  obtain ⟨⟨pa, pb, pc⟩, hpr⟩ : ∃ r, progS p = r := ⟨_, rfl⟩
  obtain ⟨⟨⟨qa, qe⟩, sh, has⟩, hq⟩ : ∃ r, methodS p (methS p m) = r := ⟨_, rfl⟩
  obtain ⟨n, hn⟩ : ∃ n, (methS p m).f4.length = n := ⟨_, rfl⟩
  rw [hr] at hM hM2
  rw [hr] at hm
  dsimp only at hm
  subst hm
  rw [hq, hn] at hS hS2
  rw [hpr] at hP hP2
  dsimp only at hS hS2
  have u1 : (ra != ra) = false := by simp
  have u3 : (pa != pa) = false := by simp
  have u4 : (pb != pb) = false := by simp
  have u5 : (pc != pc) = false := by simp
  have HA := Lib.hid hA
  have HR := Lib.hid hrow
  have HF := Lib.hid hF
  have HM := Lib.hid hM
  have HM2 := Lib.hid hM2
  have HP := Lib.hid hP
  have HP2 := Lib.hid hP2
  have HS := Lib.hid hS
  have HS2 := Lib.hid hS2
  clear hA hrow hF hp hG h hM hM2 hP hP2 hS hS2 hr hpr hf hq hn
  go_enter Tryd.func7, Tryd.ntmps7
  go_wp2_with (first | (go_at_call 27; refine hK.mono ?_; rintro e w1 ⟨rfl, hb1⟩; obtain ⟨y0, y1, y2⟩ := cells3V (row_kept hb1 HR.out); have B1 := Lib.hid (HA.out.trans (hb1.mono HA.out.size)); have R1 := Lib.hid (row_kept hb1 HR.out); clear hb1) | (go_at_call 28; refine (HF.out _ B1.out).mono ?_; rintro e w2 ⟨rfl, hb2⟩; clear y0 y1 y2; obtain ⟨y0, y1, y2⟩ := cells3V (row_kept hb2 R1.out); have B2 := Lib.hid (B1.out.trans (hb2.mono B1.out.size)); have R2 := Lib.hid (row_kept hb2 R1.out); clear hb2) | (go_at_call 29; refine (HM.out _ B2.out).mono ?_; rintro e w3 ⟨rfl, hb3⟩; clear y0 y1 y2; obtain ⟨y0, y1, y2⟩ := cells3V (row_kept hb3 R2.out); have B3 := Lib.hid (B2.out.trans (hb3.mono B2.out.size)); have R3 := Lib.hid (row_kept hb3 R2.out); clear hb3) | (go_at_call 30; refine (HM2.out _ B3.out).mono ?_; rintro e w4 ⟨rfl, hb4⟩; clear y0 y1 y2; obtain ⟨y0, y1, y2⟩ := cells3V (row_kept hb4 R3.out); have B4 := Lib.hid (B3.out.trans (hb4.mono B3.out.size)); have R4 := Lib.hid (row_kept hb4 R3.out); clear hb4) | (go_at_call 31; refine (HP.out _ B4.out).mono ?_; rintro e w5 ⟨rfl, hb5⟩; clear y0 y1 y2; obtain ⟨y0, y1, y2⟩ := cells3V (row_kept hb5 R4.out); have B5 := Lib.hid (B4.out.trans (hb5.mono B4.out.size)); have R5 := Lib.hid (row_kept hb5 R4.out); clear hb5) | (go_at_call 32; refine (HP2.out _ B5.out).mono ?_; rintro e w6 ⟨rfl, hb6⟩; clear y0 y1 y2; obtain ⟨y0, y1, y2⟩ := cells3V (row_kept hb6 R5.out); have B6 := Lib.hid (B5.out.trans (hb6.mono B5.out.size)); have R6 := Lib.hid (row_kept hb6 R5.out); clear hb6) | (go_at_call 33; refine (HS.out _ B6.out).mono ?_; rintro e w7 ⟨E, rfl, hb7, -, -, hEn, hW⟩; clear y0 y1 y2; obtain ⟨y0, y1, y2⟩ := cells3V (row_kept hb7 R6.out); have B7 := Lib.hid (B6.out.trans (hb7.mono B6.out.size)); have R7 := Lib.hid (row_kept hb7 R6.out); have HW := Lib.hid hW; have HEN := Lib.hid hEn; simp only [hEn]; clear hb7 hW hEn) | (go_at_call 34; refine (HS2.out _ B7.out).mono ?_; rintro e w8 ⟨L, n2, gone, rfl, hb8, hn2, hSt⟩; have B8 := Lib.hid (B7.out.trans (hb8.mono B7.out.size)); have HW2 := Lib.hid (HW.out.below hb8); have HSt := Lib.hid hSt; have hn3 := hn2.symm; clear hn2; subst hn3; clear hb8 hSt))
  clear y0 y1 y2
  go_loopg [17] n (fun g s17 wx => ∃ j : Nat, j + g = n ∧ s17 = .int .i64 j ∧ Hid (Below w8.heap.size w8 wx))
  case atStart => exact ⟨0, by omega, rfl, Lib.hid (Below.refl _ _)⟩
  case round =>
    obtain ⟨j, hjg, rfl, HJ⟩ := hrel
    have hn4 := HSt.out.hn
    have W3 := HW2.out.below HJ.out
    have S3 := HSt.out.below HJ.out
    cases gk with
    | zero =>
      have ht : decide ((j : Int) < (n : Int)) = false := decide_eq_false (by omega)
      have htn : decide (j < n) = false := decide_eq_false (by omega)
      clear W3 S3
      go_wp2_with fail
      try rw [Exit.noGoto_ret]
      go_ret
      exact ⟨rfl, B8.out.trans (HJ.out.mono B8.out.size)⟩
    | succ g =>
      have hj : j < n := by omega
      have ht : decide ((j : Int) < (n : Int)) = true := decide_eq_true (by omega)
      have j0 : (0 : Int) ≤ (j : Int) := by omega
      have j1 : (j : Int) < (n : Int) := by omega
      have xh := cell_bools W3.hh j (by rw [W3.lh, HEN.out]; exact hj)
      have xg := cell_bools S3.hh j (by rw [S3.lh]; exact hj)
      obtain ⟨O, oc, a0, a1, hoc, hO⟩ := shape_at W3 j (by rw [HEN.out]; exact hj)
      obtain ⟨Q, qc, b0, b1, hqc, hQ⟩ := st_shape S3 j hj
      obtain ⟨b, hb⟩ : ∃ b, has.getD j false = b := ⟨_, rfl⟩
      obtain ⟨⟨sl, sH⟩, hs⟩ : ∃ s, sh.getD j ([], 0) = s := ⟨_, rfl⟩
      rw [hb] at xh xg
      rw [hs] at a0 a1 b0 b1 hoc hO hqc hQ
      dsimp only at a0 a1 b0 b1 hoc hO hqc hQ
      have hI : ∀ kk, Calls Tryd.prog 35 #[.slice O sl.length oc, .slice Q sl.length qc] (wr.drewN kk) fun e w' => e = .returned (.bool true) ∧ ∃ k, w' = (wr.drewN kk).drewN k := fun kk =>
        same_calls (Kd.C_below hO (below_drewN0 (Below.refl _ _) kk)) hoc (Kd.C_below hQ (below_drewN0 (Below.refl _ _) kk)) hqc
      have HI := Lib.hid hI
      have v1 : (b != b) = false := by simp
      have v2 : (sH != sH) = false := by simp
      clear W3 S3 hb hs hO hQ hoc hqc hI
      go_upto_region 20 with fail
      go_quiet (first | (go_at_call 35; exact Calls.quiet_of (HI.out _)))
      all_goals go_wp2_with fail
      go_roundg g
      case measure => omega
      case rel => exact ⟨j + 1, by omega, by first | rfl | simp, Lib.hid (below_drewN0 HJ.out _)⟩
theorem methodsLaw_calls (hp : PgX w A0 c0 A1 c1 A2 c2 p) (hG : Glob w) (m : Int) :
    Calls Tryd.prog 7 #[.agg #[.slice A0 p.pool.length c0, .slice A1 p.classes.length c1, .slice A2 p.methods.length c2], .int .i64 m] w (LawPost w) := by
  cases hF : fewS p with
  | false => exact methodsLaw_many hp hG m hF
  | true =>
    by_cases hm : (mthS p m).2 = 0
    · exact methodsLaw_ok hp hG m hF hm
    · exact methodsLaw_bad hp hG m hF hm
end
end Go.Proofs.YtkphijabhoppnaaDoor
