/- A method's shapes (brazier/verify.Shapes). -/
import Derived.Test.YtkphijabhoppnaaDoorAVt
import Derived.Test.YtkphijabhoppnaaDoorAVq
import Derived.Deep.LoopGhost
import Derived.BigQuiet
namespace Go.Proofs.YtkphijabhoppnaaDoor
open Go.RowKit Go.Proofs.YtkphijabhoppnaaDoorW.PrintWords
set_option linter.unusedSimpArgs false
set_option linter.unusedVariables false
def mthS (p : Pg) (m : Int) : Int × Int := if m < 0 ∨ (p.methods.length : Int) ≤ m ∨ checkS p ≠ 0 then (0, 1) else (methodS p (methS p m)).1
def MePost (w : World) (r : Int × Int) (e : Ending) (w' : World) : Prop := e = .returned (.tuple #[.int .i64 r.1, .int .i64 r.2]) ∧ Below w.heap.size w w'
section
variable {w : World} {A0 A1 A2 : Option Addr} {c0 c1 c2 : Nat} {p : Pg}
set_option maxRecDepth 100000 in
set_option maxHeartbeats 1600000 in
theorem Method_calls (hp : PgX w A0 c0 A1 c1 A2 c2 p) (hG : Glob w) (hf : FewPar p) (m : Int) :
    Calls Tryd.prog 29 #[.agg #[.slice A0 p.pool.length c0, .slice A1 p.classes.length c1, .slice A2 p.methods.length c2], .int .i64 m] w (MePost w (mthS p m)) := by
  have hA : Below w.heap.size w (w.alloc (obP A0 c0 A1 c1 A2 c2 p)) := (Below.refl _ w).alloc (Nat.le_refl _) _
  obtain ⟨r, hr⟩ : ∃ r, mthS p m = r := ⟨_, rfl⟩
  rw [hr]
  unfold mthS at hr
  by_cases h1 : m < 0
  · have t1 : decide (m < 0) = true := decide_eq_true h1
    rw [if_pos (.inl h1)] at hr
    subst hr
    clear h1
    go_enter Tryd.func29, Tryd.ntmps29
    go_wp2_with fail
    go_ret2
    exact ⟨rfl, hA⟩
  · have t1 : decide (m < 0) = false := decide_eq_false h1
    by_cases h2 : (p.methods.length : Int) ≤ m
    · have t2 : decide ((p.methods.length : Int) ≤ m) = true := decide_eq_true h2
      rw [if_pos (.inr (.inl h2))] at hr
      subst hr
      clear h1 h2
      go_enter Tryd.func29, Tryd.ntmps29
      go_wp2_with fail
      go_ret2
      exact ⟨rfl, hA⟩
    · have t2 : decide ((p.methods.length : Int) ≤ m) = false := decide_eq_false h2
      obtain ⟨k, hmk⟩ : ∃ k : Nat, m = k := ⟨m.toNat, by omega⟩
      have hk : k < p.methods.length := by omega
      have hC := check_calls (hp.below hA).pg hp.small
      obtain ⟨ch, hch⟩ : ∃ ch, checkS p = ch := ⟨_, rfl⟩
      rw [hch] at hC hr
      have hrow := heap_alloc_new w (obP A0 c0 A1 c1 A2 c2 p)
      have HR := Lib.hid hrow
      have HA := Lib.hid hA
      have HP := Lib.hid hp
      have HC := Lib.hid hC
      clear hrow hA hC
      by_cases h3 : ch = 0
      · subst h3
        rw [if_neg (by omega)] at hr
        have hme : ∀ V, Below w.heap.size w V → Calls Tryd.prog 56 #[.agg #[.slice A0 p.pool.length c0, .slice A1 p.classes.length c1, .slice A2 p.methods.length c2], .int .i64 m] V fun e w' => ∃ v, e = .returned (.tuple #[v, .int .i64 r.1, .int .i64 r.2]) ∧ Below V.heap.size V w' := fun V hV => by
          have hsz : sizesS (methS p k) = 0 := (check_sizes hch).2.1 _ (getD_in (by simpa using hk))
          rw [hmk]
          refine (method_calls (HP.out.below hV) (hG.below hV) k hk hsz hf).mono ?_
          rintro e w' ⟨v, rfl, hb, -⟩
          rw [← hr, hmk]
          exact ⟨v, rfl, hb⟩
        have HM := Lib.hid hme
        clear hme h1 h2 hr hp hG hf hch hk hmk
        go_enter Tryd.func29, Tryd.ntmps29
        go_wp2_with (first | (go_at_call 55; refine HC.out.mono ?_; rintro e w1 ⟨rfl, hb1⟩; obtain ⟨y0, y1, y2⟩ := cells3V (row_kept hb1 HR.out); have B1 := Lib.hid (HA.out.trans (hb1.mono HA.out.size)); clear hb1) | (go_at_call 56; refine (HM.out _ B1.out).mono ?_; rintro e w2 ⟨v, rfl, hb2⟩))
        go_ret2
        exact ⟨rfl, B1.out.trans (hb2.mono B1.out.size)⟩
      · rw [if_pos (.inr (.inr h3))] at hr
        subst hr
        have t3 : (ch != 0) = true := by simpa using h3
        clear h1 h2 h3 hp hG hf hch hk hmk
        go_enter Tryd.func29, Tryd.ntmps29
        go_wp2_with (first | (go_at_call 55; refine HC.out.mono ?_; rintro e w1 ⟨rfl, hb1⟩))
        go_ret2
        exact ⟨rfl, HA.out.trans (hb1.mono HA.out.size)⟩
end
end Go.Proofs.YtkphijabhoppnaaDoor
namespace Go.Proofs.YtkphijabhoppnaaDoor
open Go.RowKit Go.Proofs.YtkphijabhoppnaaDoorW.PrintWords
set_option linter.unusedSimpArgs false
set_option linter.unusedVariables false
theorem WkI.lower {E : Env} {base base' : Nat} {W : World} {sh : List Shp} {has : List Bool} (h : WkI E base W sh has) (hb : base' ≤ base) : WkI E base' W sh has := by
  obtain ⟨cs, h1, h2, h3⟩ := h.ss
  exact ⟨h.blk, h.bb, h.hh, ⟨cs, h1, h2, fun i hi => by
    obtain ⟨v, a, b, c⟩ := h3 i hi
    exact ⟨v, a, b, row_base c hb⟩⟩, h.lb, h.lh, h.ls, h.hn, Nat.le_trans hb h.loG, Nat.le_trans hb h.los, Nat.le_trans hb h.loh, h.ne⟩
section
variable {w : World} {A0 A1 A2 : Option Addr} {c0 c1 c2 : Nat} {p : Pg}
set_option maxRecDepth 100000 in
set_option maxHeartbeats 1600000 in
theorem shapes_err (hp : PgX w A0 c0 A1 c1 A2 c2 p) (hG : Glob w) (hf : FewPar p) (m : Int) (h : (mthS p m).2 ≠ 0) :
    Calls Tryd.prog 33 #[.agg #[.slice A0 p.pool.length c0, .slice A1 p.classes.length c1, .slice A2 p.methods.length c2], .int .i64 m] w
      fun e w' => e = .returned (.tuple #[.slice none 0 0, .slice none 0 0, .int .i64 (mthS p m).2]) ∧ Below w.heap.size w w' := by
  have hA : Below w.heap.size w (w.alloc (obP A0 c0 A1 c1 A2 c2 p)) := (Below.refl _ w).alloc (Nat.le_refl _) _
  have hM := Method_calls (hp.below hA) (hG.below hA) hf m
  obtain ⟨⟨ra, re⟩, hr⟩ : ∃ r, mthS p m = r := ⟨_, rfl⟩
  rw [hr] at hM h ⊢
  dsimp only at h
  have t1 : (re != 0) = true := by simpa using h
  have HA := Lib.hid hA
  clear hA hp hG hf hr h
  go_enter Tryd.func33, Tryd.ntmps33
  go_wp2_with (first | (go_at_call 29; refine hM.mono ?_; rintro e w1 ⟨rfl, hb1⟩))
  refine bodyPost_ret (results_tmp3 (fn := Tryd.f33) rfl _ _ _) rfl ?_
  exact ⟨rfl, HA.out.trans (hb1.mono HA.out.size)⟩
set_option maxRecDepth 100000 in
set_option maxHeartbeats 1600000 in
theorem shapes_ok (hp : PgX w A0 c0 A1 c1 A2 c2 p) (hG : Glob w) (hf : FewPar p) (m : Int) (h : (mthS p m).2 = 0) :
    Calls Tryd.prog 33 #[.agg #[.slice A0 p.pool.length c0, .slice A1 p.classes.length c1, .slice A2 p.methods.length c2], .int .i64 m] w
      fun e w' => ∃ E : Env, e = .returned (.tuple #[.slice (some ⟨E.gs, 0, none⟩) E.n E.n, .slice (some ⟨E.gh, 0, none⟩) E.n E.n, .int .i64 0]) ∧ Below w.heap.size w w' ∧
        E.p = p ∧ E.m = methS p m ∧ E.n = (methS p m).f4.length ∧ WkI E w.heap.size w' (methodS p (methS p m)).2.1 (methodS p (methS p m)).2.2 := by
  have hA : Below w.heap.size w (w.alloc (obP A0 c0 A1 c1 A2 c2 p)) := (Below.refl _ w).alloc (Nat.le_refl _) _
  have hM := Method_calls (hp.below hA) (hG.below hA) hf m
  have hrow := heap_alloc_new w (obP A0 c0 A1 c1 A2 c2 p)
  have hmt : ∃ k : Nat, m = k ∧ k < p.methods.length ∧ sizesS (methS p m) = 0 ∧ (methodS p (methS p m)).1.2 = 0 := by
    unfold mthS at h
    by_cases hx : m < 0 ∨ (p.methods.length : Int) ≤ m ∨ checkS p ≠ 0
    · rw [if_pos hx] at h; simp at h
    · rw [if_neg hx] at h
      have hk : m.toNat < p.methods.length := by omega
      refine ⟨m.toNat, by omega, hk, (check_sizes (by omega)).2.1 _ (getD_in hk), h⟩
  obtain ⟨k, hmk, hk, hsz, hz⟩ := hmt
  have hme : ∀ V, Below w.heap.size w V → Calls Tryd.prog 56 #[.agg #[.slice A0 p.pool.length c0, .slice A1 p.classes.length c1, .slice A2 p.methods.length c2], .int .i64 m] V fun e w' => ∃ E : Env, e = .returned (.tuple #[.pointer (some ⟨E.G, 0, none⟩), .int .i64 (methodS p (methS p m)).1.1, .int .i64 0]) ∧ Below V.heap.size V w' ∧
      E.p = p ∧ E.m = methS p m ∧ E.n = (methS p m).f4.length ∧ WkI E w.heap.size w' (methodS p (methS p m)).2.1 (methodS p (methS p m)).2.2 := fun V hV => by
    rw [hmk] at hsz hz ⊢
    refine (method_calls (hp.below hV) (hG.below hV) k hk hsz hf).mono ?_
    rintro e w' ⟨v, rfl, hb, hE⟩
    obtain ⟨E, rfl, e1, e2, e3, hW⟩ := hE hz
    exact ⟨E, by rw [hz], hb, e1, e2, e3, hW.lower hV.size⟩
  obtain ⟨⟨ra, re⟩, hr⟩ : ∃ r, mthS p m = r := ⟨_, rfl⟩
  rw [hr] at hM h
  dsimp only at h
  subst h
  obtain ⟨⟨⟨qa, qe⟩, sh, has⟩, hq⟩ : ∃ r, methodS p (methS p m) = r := ⟨_, rfl⟩
  rw [hq] at hme ⊢
  dsimp only at hme ⊢
  have HA := Lib.hid hA
  have HR := Lib.hid hrow
  have HM := Lib.hid hme
  clear hA hp hG hf hr hme hq hz hsz hk hmk hrow
  go_enter Tryd.func33, Tryd.ntmps33
  go_upto_region 5 with (first | (go_at_call 29; refine hM.mono ?_; rintro e w1 ⟨rfl, hb1⟩; obtain ⟨y0, y1, y2⟩ := cells3V (row_kept hb1 HR.out); have B1 := Lib.hid (HA.out.trans (hb1.mono HA.out.size)); clear hb1) | (go_at_call 56; refine (HM.out _ B1.out).mono ?_; rintro e w2 ⟨E, rfl, hb2, e1, e2, e3, hW⟩; obtain ⟨x8, x9, x10⟩ := cells11 hW.blk; have HE := Lib.hid (And.intro hb2 (And.intro e1 (And.intro e2 (And.intro e3 hW)))); clear hb2 e1 e2 e3 hW y0 y1 y2))
  go_quiet (fail)
  all_goals go_wp2_with fail
  obtain ⟨hb2, e1, e2, e3, hW⟩ := HE.out
  have hbb := B1.out.trans (hb2.mono B1.out.size)
  refine bodyPost_ret (results_tmp3 (fn := Tryd.f33) rfl _ _ _) rfl ?_
  refine ⟨E, rfl, ?_, e1, e2, e3, ?_⟩
  · first | exact hbb | exact hbb.drew | exact below_drewN0 hbb _
  · first | exact hW | exact hW.below ((Below.refl _ _).drew) | exact hW.below (below_drewN0 (Below.refl _ _) _)
end
end Go.Proofs.YtkphijabhoppnaaDoor
