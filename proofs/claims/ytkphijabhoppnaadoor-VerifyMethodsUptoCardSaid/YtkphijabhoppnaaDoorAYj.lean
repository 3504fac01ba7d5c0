/- A method gone through, by the reference (brazierref15.run). -/
import Derived.Test.YtkphijabhoppnaaDoorAYh
import Derived.Test.YtkphijabhoppnaaDoorAYl
import Derived.Test.YtkphijabhoppnaaDoorAVu
import Derived.Test.YtkphijabhoppnaaDoorAVq
import Derived.Test.YtkphijabhoppnaaDoorAVw
import Derived.Test.YtkphijabhoppnaaDoorAPVerifyMethodsx12
import Derived.Deep.CutBlock
import Derived.Deep.DeepCutAuto
import Derived.Deep.CutRange
import Derived.Deep.LoopGhost
import Derived.BigQuiet
namespace Go.Proofs.YtkphijabhoppnaaDoor
open Go.RowKit Go.Proofs.YtkphijabhoppnaaDoorW.PrintWords
set_option linter.unusedSimpArgs false
set_option linter.unusedVariables false
theorem rbeg (l : List Int) (a : Int) (hl : l.length ≤ 1000000) : ∀ d i, i + d = l.length → PVerifyMethods.brazierref15_begins.l0 (d + 1) l a i = some (decide (a ∈ l.drop i)) := by
  intro d
  induction d with
  | zero =>
    intro i hi
    rw [PVerifyMethods.brazierref15_begins.l0, if_neg (by omega), List.drop_eq_nil_of_le (by omega)]
    simp
  | succ d ih =>
    intro i hi
    have hlt : i < l.length := by omega
    have e1 : wrap64 ((i : Int) + 1) = ((i + 1 : Nat) : Int) := by unfold wrap64; omega
    have e2 : rd l i = l[i] := by simp only [rd, Int.toNat_natCast, List.getD_eq_getElem?_getD]; rw [List.getElem?_eq_getElem hlt]; rfl
    rw [PVerifyMethods.brazierref15_begins.l0, if_pos (by omega), if_pos (by omega), e1, ih (i + 1) (by omega), e2, List.drop_eq_getElem_cons hlt]
    by_cases h : l[i] = a
    · rw [if_pos h]; simp [h]
    · rw [if_neg h]
      congr 1
      rw [decide_eq_decide, List.mem_cons]
      exact ⟨fun h2 => .inr h2, fun h2 => h2.elim (fun e => absurd e.symm h) id⟩
theorem rbegins_calls {w : World} {A : Option Addr} {c : Nat} {l : List Int} (hC : Kd.C (Kd.int .i64) w A l.length l) (hc : l.length ≤ c) (hl : l.length ≤ 1000000) (a : Int) :
    Calls Tryd.prog 101 #[.slice A l.length c, .int .i64 a] w fun e w' => e = .returned (.bool (decide (a ∈ l))) ∧ ∃ k, w' = w.drewN k := by
  refine (PVerifyMethods.brazierref15_begins.calls (l.length + 1) A c l a (decide (a ∈ l)) w hC hc ?_).mono fun e w' h => ⟨h.1, h.2.out⟩
  unfold PVerifyMethods.brazierref15_begins.f
  have := rbeg l a hl l.length 0 (by omega)
  rw [List.drop_zero] at this
  exact this
theorem jump_in (l : List Int) (t : Int) : decide (t ∈ plcs (opsL l)) = !decide (t < 0 ∨ (l.length : Int) ≤ t ∨ (beginsS l).getD t.toNat false = false) := by
  rw [Bool.eq_iff_iff]
  simp only [decide_eq_true_eq, Bool.not_eq_true', decide_eq_false_iff_not]
  constructor
  · intro h hx
    obtain ⟨x, hx2, rfl⟩ := List.mem_map.1 h
    have hm := opsFrom_mem l _ _ x hx2
    have hb := (begins_iff l x.1).2 ⟨hm.2.1, x, hx2, rfl⟩
    rw [Int.toNat_natCast, hb] at hx
    have := hm.2.1
    rcases hx with h1 | h1 | h1
    · omega
    · omega
    · cases h1
  · intro h
    have h1 : ¬ t < 0 := fun h1 => h (.inl h1)
    have h2 : (beginsS l).getD t.toNat false = true := by
      cases hb : (beginsS l).getD t.toNat false with
      | true => rfl
      | false => exact absurd (.inr (.inr hb)) h
    obtain ⟨-, x, hx, e⟩ := (begins_iff l t.toNat).1 h2
    exact List.mem_map.2 ⟨x, hx, by omega⟩
theorem mk_step {ops : Array Oper} {o : Oper} {a : Act} {Kc : Act → World → Prop} {Q : Exit → Act → World → Prop} {W : World} (hw : Region.wanted o (yielded ops a.tmps) = true) (t : TypeId) (x : Operand) (ho : o.op = .makeSlice t x x) (n : Nat) (hx : a.eval x = .int .i64 n) (ob : Obj)
    (hr : ∀ w, (Instr.makeSlice t (.int .i64 (n : Int)) (.int .i64 (n : Int))).run Tryd.prog w = .ok (.slice (some ⟨w.heap.size, 0, none⟩) n n) (w.alloc ob)) (h : Kc (a.put o.dst (.slice (some ⟨W.heap.size, 0, none⟩) n n)) (W.alloc ob)) :
    if Region.wanted o (yielded ops a.tmps) = true then Oper.wp Tryd.prog o a W Kc Q else Kc (a.put o.dst undef) W :=
  event_step hw (by simp [execOp, ho, hx, hr]) h
def zshp2 (n : Nat) : Obj := .cells (madeCells #[.slice none 0 0, .int .i64 0] (n * 2)) 82
theorem info82 : (Tryd.prog.info? 82).map (fun i => (i.zero, i.size, i.bytes)) = some (some (.agg #[.slice none 0 0, .int .i64 0]), 2, 32) := by kernel_rfl
theorem make76 (n : Nat) (hn : n ≤ 1000000) (w : World) : (Instr.makeSlice 76 (.int .i64 (n : Int)) (.int .i64 (n : Int))).run Tryd.prog w = .ok (.slice (some ⟨w.heap.size, 0, none⟩) n n) (w.alloc (zshp2 n)) := by
  obtain ⟨i, hi, hzz⟩ := Option.map_eq_some_iff.1 info82
  simp only [Prod.mk.injEq] at hzz
  obtain ⟨hz, hs, hb⟩ := hzz
  have hr := run_make (P := Tryd.prog) w 76 82 i _ (by kernel_rfl) hi hz .i64 .i64 n n (by omega) (Int.le_refl _) (by rw [hb]; omega) (by omega)
  simp only [Int.toNat_natCast, hs] at hr
  exact hr
theorem st_new {V Y : World} {L : Loc} {n : Nat} (hn : n ≤ 4096) (hG : Y.heap[L.G]? = some (obT L n)) (hs : Y.heap[L.gs]? = some (zshp2 n)) (hh : Y.heap[L.gh]? = some (bools4 (List.replicate n false))) (hg : Y.heap[L.gg]? = some (bools4 (List.replicate n false)))
    (h1 : V.heap.size ≤ L.G) (h2 : V.heap.size ≤ L.gs) (h3 : V.heap.size ≤ L.gh) (h4 : V.heap.size ≤ L.gg) (ne : L.gg ≠ L.gh) : StI L n V.heap.size Y (shapes0 n) (List.replicate n false) (List.replicate n false) :=
  ⟨hG, hh, hg, ⟨_, hs.trans rfl, zshp_ok _ _ n⟩, by simp, by simp, by simp [shapes0], hn, h1, h2, h3, h4, ne⟩
def NewP (V : World) (n : Nat) (s : Value) (Y : World) : Prop := ∃ L : Loc, s = .pointer (some ⟨L.G, 0, none⟩) ∧ StI L n V.heap.size Y (shapes0 n) (List.replicate n false) (List.replicate n false) ∧ Below V.heap.size V Y
section
variable {V : World} {n : Nat}
theorem new_s0 (hn : n ≤ 4096) (b : Bool) : NewP V n (.pointer (some ⟨V.heap.size + 1 + 1 + 1, 0, none⟩)) (((((V.alloc (zshp2 n)).alloc (bools4 (List.replicate n false))).alloc (bools4 (List.replicate n false))).alloc (obT ⟨V.heap.size + 1 + 1 + 1, V.heap.size, if b then V.heap.size + 1 else V.heap.size + 1 + 1, if b then V.heap.size + 1 + 1 else V.heap.size + 1⟩ n)).drew) := by
  obtain ⟨hb, hz, r1, r2, r3, r4⟩ := alloc4 V (zshp2 n) (bools4 (List.replicate n false)) (bools4 (List.replicate n false)) (obT ⟨V.heap.size + 1 + 1 + 1, V.heap.size, if b then V.heap.size + 1 else V.heap.size + 1 + 1, if b then V.heap.size + 1 + 1 else V.heap.size + 1⟩ n)
  refine ⟨⟨V.heap.size + 1 + 1 + 1, V.heap.size, if b then V.heap.size + 1 else V.heap.size + 1 + 1, if b then V.heap.size + 1 + 1 else V.heap.size + 1⟩, rfl, st_new hn (row_drewV r4) (row_drewV r1) ?_ ?_ ?_ ?_ ?_ ?_ ?_, hb.drew⟩ <;> cases b <;> first | exact row_drewV r2 | exact row_drewV r3 | (simp; done) | (simp; omega) | (dsimp only; omega)
theorem new_s1 (hn : n ≤ 4096) (b : Bool) : NewP V n (.pointer (some ⟨V.heap.size + 1 + 1 + 1, 0, none⟩)) (((((V.alloc (bools4 (List.replicate n false))).alloc (zshp2 n)).alloc (bools4 (List.replicate n false))).alloc (obT ⟨V.heap.size + 1 + 1 + 1, V.heap.size + 1, if b then V.heap.size else V.heap.size + 1 + 1, if b then V.heap.size + 1 + 1 else V.heap.size⟩ n)).drew) := by
  obtain ⟨hb, hz, r1, r2, r3, r4⟩ := alloc4 V (bools4 (List.replicate n false)) (zshp2 n) (bools4 (List.replicate n false)) (obT ⟨V.heap.size + 1 + 1 + 1, V.heap.size + 1, if b then V.heap.size else V.heap.size + 1 + 1, if b then V.heap.size + 1 + 1 else V.heap.size⟩ n)
  refine ⟨⟨V.heap.size + 1 + 1 + 1, V.heap.size + 1, if b then V.heap.size else V.heap.size + 1 + 1, if b then V.heap.size + 1 + 1 else V.heap.size⟩, rfl, st_new hn (row_drewV r4) (row_drewV r2) ?_ ?_ ?_ ?_ ?_ ?_ ?_, hb.drew⟩ <;> cases b <;> first | exact row_drewV r1 | exact row_drewV r3 | (simp; done) | (simp; omega) | (dsimp only; omega)
theorem new_s2 (hn : n ≤ 4096) (b : Bool) : NewP V n (.pointer (some ⟨V.heap.size + 1 + 1 + 1, 0, none⟩)) (((((V.alloc (bools4 (List.replicate n false))).alloc (bools4 (List.replicate n false))).alloc (zshp2 n)).alloc (obT ⟨V.heap.size + 1 + 1 + 1, V.heap.size + 1 + 1, if b then V.heap.size else V.heap.size + 1, if b then V.heap.size + 1 else V.heap.size⟩ n)).drew) := by
  obtain ⟨hb, hz, r1, r2, r3, r4⟩ := alloc4 V (bools4 (List.replicate n false)) (bools4 (List.replicate n false)) (zshp2 n) (obT ⟨V.heap.size + 1 + 1 + 1, V.heap.size + 1 + 1, if b then V.heap.size else V.heap.size + 1, if b then V.heap.size + 1 else V.heap.size⟩ n)
  refine ⟨⟨V.heap.size + 1 + 1 + 1, V.heap.size + 1 + 1, if b then V.heap.size else V.heap.size + 1, if b then V.heap.size + 1 else V.heap.size⟩, rfl, st_new hn (row_drewV r4) (row_drewV r3) ?_ ?_ ?_ ?_ ?_ ?_ ?_, hb.drew⟩ <;> cases b <;> first | exact row_drewV r1 | exact row_drewV r2 | (simp; done) | (simp; omega) | (dsimp only; omega)
end
end Go.Proofs.YtkphijabhoppnaaDoor
namespace Go.Proofs.YtkphijabhoppnaaDoor
open Go.RowKit Go.Proofs.YtkphijabhoppnaaDoorW.PrintWords
set_option linter.unusedSimpArgs false
set_option linter.unusedVariables false
theorem StI.lower {L : Loc} {n base base' : Nat} {W : World} {sh : List Shp} {has gone : List Bool} (h : StI L n base W sh has gone) (hb : base' ≤ base) : StI L n base' W sh has gone := by
  obtain ⟨cs, h1, h2, h3⟩ := h.ss
  exact ⟨h.blk, h.hh, h.hg, ⟨cs, h1, h2, fun i hi => by
    obtain ⟨v, a, b, c⟩ := h3 i hi
    exact ⟨v, a, b, row_base c hb⟩⟩, h.lh, h.lg, h.ls, h.hn, Nat.le_trans hb h.loG, Nat.le_trans hb h.los, Nat.le_trans hb h.loh, Nat.le_trans hb h.log, h.ne⟩
def RunPost (w : World) (p : Pg) (m : Int) (e : Ending) (w' : World) : Prop :=
  ∃ v, e = .returned (.tuple #[v, .int .i64 (mthS p m).1, .int .i64 (mthS p m).2]) ∧ Below w.heap.size w w' ∧ ((mthS p m).2 = 0 → ∃ L gone, v = .pointer (some ⟨L.G, 0, none⟩) ∧ StI L (methS p m).f4.length w.heap.size w' (methodS p (methS p m)).2.1 (methodS p (methS p m)).2.2 gone)
theorem opnd_bad {p : Pg} {m : Meth} {n : Nat} {bg : List Bool} {ops : List (Nat × Rd)} {j : Nat} (hj : j < ops.length) (h : (opndS p m n bg (ops.take j)).2 = 0) (hb : badS p m n bg ops[j] ≠ 0) : opndS p m n bg ops = ((ops[j].1 : Int), badS p m n bg ops[j]) := by
  have e : ops.take (j + 1) = ops.take j ++ [ops[j]] := by rw [List.take_add_one, List.getElem?_eq_getElem hj]; rfl
  have h1 : opndS p m n bg (ops.take (j + 1)) = ((ops[j].1 : Int), badS p m n bg ops[j]) := by rw [e, opnd_snoc p m n bg _ _ h, if_neg hb]
  rw [← h1]
  exact opnd_prefix p m n bg (List.take_prefix _ _) (by rw [h1]; exact hb)
theorem opnd_next {p : Pg} {m : Meth} {n : Nat} {bg : List Bool} {ops : List (Nat × Rd)} {j : Nat} (hj : j < ops.length) (h : (opndS p m n bg (ops.take j)).2 = 0) (hb : badS p m n bg ops[j] = 0) : (opndS p m n bg (ops.take (j + 1))).2 = 0 := by
  have e : ops.take (j + 1) = ops.take j ++ [ops[j]] := by rw [List.take_add_one, List.getElem?_eq_getElem hj]; rfl
  rw [e, opnd_snoc p m n bg _ _ h, if_pos hb]
theorem places_plcs (l : List Int) (hl : l.length ≤ 1000000) (h : (placesS l).2 = 0) : (placesS l).1 = plcs (opsL l) := by
  have e := places_zero l hl h
  have e2 := endO_endN l hl
  unfold placesS
  rw [if_neg (by omega)]
section
variable {w : World} {A0 A1 A2 : Option Addr} {c0 c1 c2 : Nat} {p : Pg}
set_option maxRecDepth 100000 in
set_option maxHeartbeats 1600000 in
theorem rrun_bad (hp : PgX w A0 c0 A1 c1 A2 c2 p) (m : Int) (h : m < 0 ∨ (p.methods.length : Int) ≤ m ∨ checkS p ≠ 0) :
    Calls Tryd.prog 57 #[.agg #[.slice A0 p.pool.length c0, .slice A1 p.classes.length c1, .slice A2 p.methods.length c2], .int .i64 m] w fun e w' => e = .returned (.tuple #[.pointer none, .int .i64 0, .int .i64 1]) ∧ Below w.heap.size w w' := by
  have hA : Below w.heap.size w (w.alloc (obP A0 c0 A1 c1 A2 c2 p)) := (Below.refl _ w).alloc (Nat.le_refl _) _
  have hR := heap_alloc_new w (obP A0 c0 A1 c1 A2 c2 p)
  have hC := rcheck_calls (hp.below hA).pg hp.small
  obtain ⟨ch, hch⟩ : ∃ ch, checkS p = ch := ⟨_, rfl⟩
  rw [hch] at hC h
  have HA := Lib.hid hA
  have HR := Lib.hid hR
  have HC := Lib.hid hC
  obtain ⟨y0, y1, y2⟩ := cells3V hR
  clear hA hR hC hp hch
  by_cases h0 : ch = 0
  · subst h0
    have hI := fun V => in_callsB m p.methods.length V
    rw [inS_false (by omega)] at hI
    have HI := Lib.hid hI
    clear hI h
    go_enter Tryd.func57, Tryd.ntmps57
    go_wp2_with (first | (go_at_call 58; refine HC.out.mono ?_; rintro e w1 ⟨rfl, hb1⟩; clear y0 y1 y2; obtain ⟨y0, y1, y2⟩ := cells3V (row_kept hb1 HR.out); have B1 := Lib.hid (HA.out.trans (hb1.mono HA.out.size)); clear hb1) | (go_at_call 99; refine (HI.out _).mono ?_; rintro e w2 ⟨rfl, hb2⟩))
    refine bodyPost_ret (results_tmp3 (fn := Tryd.f57) rfl _ _ _) rfl ?_
    exact ⟨rfl, B1.out.trans (hb2.mono B1.out.size)⟩
  · have t0 : (ch != 0) = true := by simpa using h0
    clear h h0
    go_enter Tryd.func57, Tryd.ntmps57
    go_wp2_with (first | (go_at_call 58; refine HC.out.mono ?_; rintro e w1 ⟨rfl, hb1⟩; clear y0 y1 y2; obtain ⟨y0, y1, y2⟩ := cells3V (row_kept hb1 HR.out); have B1 := Lib.hid (HA.out.trans (hb1.mono HA.out.size)); clear hb1))
    refine bodyPost_ret (results_tmp3 (fn := Tryd.f57) rfl _ _ _) rfl ?_
    exact ⟨rfl, B1.out⟩
set_option maxRecDepth 100000 in
set_option maxHeartbeats 6400000 in
theorem rrun_good (hp : PgX w A0 c0 A1 c1 A2 c2 p) (hf : FewPar p) (k : Nat) (hk : k < p.methods.length) (hch : checkS p = 0) :
    Calls Tryd.prog 57 #[.agg #[.slice A0 p.pool.length c0, .slice A1 p.classes.length c1, .slice A2 p.methods.length c2], .int .i64 k] w fun e w' => ∃ v, e = .returned (.tuple #[v, .int .i64 (methodS p (methS p k)).1.1, .int .i64 (methodS p (methS p k)).1.2]) ∧ Below w.heap.size w w' ∧
      ((methodS p (methS p k)).1.2 = 0 → ∃ L gone, v = .pointer (some ⟨L.G, 0, none⟩) ∧ StI L (methS p k).f4.length w.heap.size w' (methodS p (methS p k)).2.1 (methodS p (methS p k)).2.2 gone) := by
  have hA : Below w.heap.size w (w.alloc (obP A0 c0 A1 c1 A2 c2 p)) := (Below.refl _ w).alloc (Nat.le_refl _) _
  have hR := heap_alloc_new w (obP A0 c0 A1 c1 A2 c2 p)
  have hC := rcheck_calls (hp.below hA).pg hp.small
  rw [hch] at hC
  have hI := fun V => in_callsB (k : Int) p.methods.length V
  rw [inS_true (by omega) (by omega)] at hI
  have hz := sizes_zero ((check_sizes hch).2.1 _ (getD_in hk) : sizesS (methS p k) = 0)
  have hNm : ∀ V, Below w.heap.size w V → ∀ c a b o, _ := fun V hV => rnamed_calls (hp.below hV) k hk ⟨by omega, by omega⟩
  obtain ⟨ad, B0, d0, B2, d2, B4, d4, hM⟩ := mth_at hp k hk
  have hby : ∀ x ∈ (methS p k).f4, 0 ≤ x ∧ x ≤ 255 := hp.byt _ (getD_in hk)
  obtain ⟨m, hm⟩ : ∃ m, methS p k = m := ⟨_, rfl⟩
  obtain ⟨R, hRR⟩ : ∃ R, methodS p m = R := ⟨_, rfl⟩
  have HX := Lib.hid (And.intro hp (And.intro hk (show (methS p k).f0.length ≤ 1000000 ∧ (methS p k).f2.length ≤ 1000000 from ⟨by omega, by omega⟩)))
  have HMM := Lib.hid hm
  rw [hm] at hM hz hNm hby ⊢
  rw [hRR]
  unfold methodS at hRR
  obtain rfl := hM.e
  obtain ⟨n, hn⟩ : ∃ n, m.f4.length = n := ⟨_, rfl⟩
  have hPl := fun V (hV : Below w.heap.size w V) => refPlaces_calls _ m.f4 (hM.by'.below hV) (by omega)
  have hRD := fun V (hV : Below w.heap.size w V) (q : Nat) => rread_calls _ m.f4 (q : Int) V (hM.by'.below hV) (by omega)
  have hlen := ops_len m.f4
  have i0 : (0 : Int) ≤ (k : Int) := by omega
  have i1 : (k : Int) < (p.methods.length : Int) := by omega
  have HA := Lib.hid hA
  have HR := Lib.hid hR
  have HC := Lib.hid hC
  have HI := Lib.hid hI
  have HZ := Lib.hid hz
  have HNm := Lib.hid hNm
  have HM := Lib.hid hM
  have HBY := Lib.hid hby
  have HF := Lib.hid hf
  have HRR := Lib.hid hRR
  have HPl := Lib.hid hPl
  have HRD := Lib.hid hRD
  have HN := Lib.hid hn
  have HLN := Lib.hid hlen
  obtain ⟨y0, y1, y2⟩ := cells3V hR
  clear hA hR hC hI hz hNm hM hby hf hRR hPl hRD hn hlen hp hk hch hm
  obtain ⟨pl, hpl⟩ : ∃ pl, (placesS m.f4).1 = pl := ⟨_, rfl⟩
  obtain ⟨pe, hpe⟩ : ∃ pe, (placesS m.f4).2 = pe := ⟨_, rfl⟩
  rw [hpl, hpe] at HPl
  by_cases hp0 : pe = 0
  · have hPz := hp0
    subst hp0
    go_enter Tryd.func57, Tryd.ntmps57
    go_upto_block 0 with (first | (go_at_call 58; refine HC.out.mono ?_; rintro e w1 ⟨rfl, hb1⟩; clear y0 y1 y2; obtain ⟨y0, y1, y2⟩ := cells3V (row_kept hb1 HR.out); have B1 := Lib.hid (HA.out.trans (hb1.mono HA.out.size)); have R1 := Lib.hid (row_kept hb1 HR.out); clear hb1) | (go_at_call 99; refine (HI.out _).mono ?_; rintro e w2 ⟨rfl, hb2⟩; clear y0 y1 y2; obtain ⟨y0, y1, y2⟩ := cells3V (row_kept hb2 R1.out); have B2 := Lib.hid (B1.out.trans (hb2.mono B1.out.size)); have R2 := Lib.hid (row_kept hb2 R1.out); have m4 := cell_be B2.out HM.out.m4; clear hb2) | (go_at_call 17; refine (HPl.out _ B2.out).mono ?_; rintro e w3 ⟨A, c, z, rfl, hzz, ho, hb3⟩; have B3 := Lib.hid (B2.out.trans (hb3.mono B2.out.size)); have R3 := Lib.hid (row_kept hb3 R2.out); have HO := Lib.hid ho; clear hb3 ho hzz y0 y1 y2 m4))
    have hplc : pl = plcs (opsL m.f4) := by rw [← hpl]; exact places_plcs _ (by have := HZ.out; omega) hpe
    have hJ : pl.length = (opsL m.f4).length := by rw [hplc]; simp [plcs]
    obtain ⟨ops, hops⟩ : ∃ ops, opsL m.f4 = ops := ⟨_, rfl⟩
    obtain ⟨bg, hbg⟩ : ∃ bg, beginsS m.f4 = bg := ⟨_, rfl⟩
    rw [hops] at hplc hJ
    have hop : ∀ x ∈ ops, x.1 < n ∧ x.2 = readAt m.f4 x.1 ∧ x.2.err = 0 := fun x hx => by
      have h := opsFrom_mem m.f4 _ _ x (by rw [← hops] at hx; exact hx)
      rw [HN.out] at h
      exact h.2
    have hji : ∀ t : Int, decide (t ∈ pl) = !decide (t < 0 ∨ (n : Int) ≤ t ∨ bg.getD t.toNat false = false) := fun t => by
      have := jump_in m.f4 t
      rwa [hops, hbg, HN.out, ← hplc] at this
    have hRR := HRR.out
    rw [if_neg (by rw [hpe]; simp), HN.out, hops, hbg] at hRR
    have hJn : ops.length ≤ n := by rw [← hops, ← HN.out]; exact HLN.out
    obtain ⟨J, hJJ⟩ : ∃ J, pl.length = J := ⟨_, rfl⟩
    rw [hJJ] at hJ HO
    simp only [hJJ]
    have HPC := Lib.hid hplc
    have HJ := Lib.hid hJ
    have HOP := Lib.hid hop
    have HJI := Lib.hid hji
    have HR2 := Lib.hid hRR
    have HJN := Lib.hid hJn
    have HPZ := Lib.hid hpe
    have HBGE := Lib.hid hbg
    have HOPE := Lib.hid hops
    have HCC : Hid (Kd.C (Kd.int .i64) w3 A J pl ∧ J ≤ c) := Lib.hid (by
      have h := HO.out
      have h1 := RI_own (l := pl) (by rw [hJJ]; exact h)
      rw [hJJ] at h1
      exact ⟨h1, own_cap h⟩)
    clear hplc hJ hop hji hRR hJn hpl hpe hJJ HPl HO HRR HLN B1 R1 B2 R2 HA HR HC HI hbg hops
    go_cut [11] (fun s Y => Hid ((opndS p m n bg ops).2 = 0) ∧ Hid (Below w3.heap.size w3 Y))
    case first =>
      go_wp2_with fail
      go_loopg [11] J (fun g s11 wx => ∃ j : Nat, j + g = J ∧ s11 = .int .i64 j ∧ Hid ((opndS p m n bg (ops.take j)).2 = 0 ∧ Below w3.heap.size w3 wx))
      case atStart => exact ⟨0, by omega, rfl, Lib.hid ⟨rfl, Below.refl _ _⟩⟩
      case round =>
        obtain ⟨j, hjg, rfl, HK⟩ := hrel
        have hjn : J ≤ 4096 := by have h1 := HJ.out; have h2 := HJN.out; have h3 := HZ.out; have h4 := HN.out; omega
        cases gk with
        | zero =>
          have ht : decide ((j : Int) < (J : Int)) = false := decide_eq_false (by omega)
          have htn : decide (j < J) = false := decide_eq_false (by omega)
          have hfin : (opndS p m n bg ops).2 = 0 := by
            have h := HK.out.1
            rwa [List.take_of_length_le (by have := HJ.out; omega)] at h
          have HFIN := Lib.hid hfin
          clear hfin
          go_wp2_with fail
          go_meet
          case rel => exact ⟨HFIN, Lib.hid HK.out.2⟩
        | succ g =>
          have ht : decide ((j : Int) < (J : Int)) = true := decide_eq_true (by omega)
          have j0 : (0 : Int) ≤ (j : Int) := by omega
          have j1 : (j : Int) < (J : Int) := by omega
          have hjo : j < ops.length := by have := HJ.out; omega
          obtain ⟨la, rfl, hla⟩ := Kd.at_int (Kd.C_below HCC.out.1 HK.out.2) j j0 j1
          rw [Int.toNat_natCast] at hla
          obtain ⟨x, hx⟩ : ∃ x, ops[j] = x := ⟨_, rfl⟩
          obtain ⟨hx1, hx2, hx3⟩ := HOP.out x (by rw [← hx]; exact List.getElem_mem hjo)
          have hrd : rd pl j = (x.1 : Int) := by
            rw [HPC.out]
            simp only [rd, Int.toNat_natCast, List.getD_eq_getElem?_getD, plcs, List.getElem?_map]
            rw [List.getElem?_eq_getElem hjo, hx]
            rfl
          rw [hrd] at hla
          have hgood := readAt_good m.f4 HBY.out x.1 (by rw [HN.out]; exact hx1) (by rw [← hx2]; exact hx3)
          have hbx := HK.out.2
          have hbw := B3.out.trans (hbx.mono B3.out.size)
          have hRd := HRD.out _ hbw x.1
          rw [readS_at m.f4 x.1 (by rw [HN.out]; exact hx1), ← hx2] at hRd
          rw [← hx2] at hgood
          have hbad : badS p m n bg ops[j] = badS p m n bg x := by rw [hx]
          obtain ⟨q, ⟨rc, ra, rb, rz, re⟩⟩ := x
          dsimp only at hla hrd hgood hx1 hRd
          change Calls Tryd.prog 14 _ _ (fun e w' => e = .returned (.tuple #[.agg #[.int .i64 rc, .int .i64 ra, .int .i64 rb, .int .i64 rz], .int .i64 re]) ∧ _) at hRd
          have hnext := fun hb => opnd_next (p := p) (m := m) (n := n) (bg := bg) hjo HK.out.1 (hbad.trans hb)
          have hstop : badS p m n bg (q, ⟨rc, ra, rb, rz, re⟩) ≠ 0 → opndS p m n bg ops = ((q : Int), badS p m n bg (q, ⟨rc, ra, rb, rz, re⟩)) := fun hb => by
            have h := opnd_bad (p := p) (m := m) (n := n) (bg := bg) hjo HK.out.1 (fun h => hb (hbad.symm.trans h))
            rwa [hbad, hx] at h
          unfold badS at hnext hstop
          dsimp only at hnext hstop
          obtain ⟨nb, hnb⟩ : ∃ nb, namedS p m rc ra rb = nb := ⟨_, rfl⟩
          have hNb := fun V hV => HNm.out V hV rc ra rb rz
          rw [hnb] at hNb hnext hstop
          have HNEXT := Lib.hid hnext
          have HSTOP := Lib.hid hstop
          have HNb := Lib.hid hNb
          have HBX := Lib.hid hbx
          have HBW := Lib.hid hbw
          have HG := Lib.hid hgood
          have HX1 := Lib.hid hx1
          have R4 := Lib.hid (row_kept hbx R3.out)
          obtain ⟨y0, y1, y2⟩ := cells3V R4.out
          clear hnext hstop hNb hbx hbw hgood hx1 hx2 hx3 hx hrd hbad hnb
          go_upto_region 11 with (first | (go_at_call 14; refine hRd.mono ?_; rintro e w4 ⟨rfl, hb4⟩; clear y0 y1 y2))
          have hbo := hb4.alloc hb4.size (obO2 rc ra rb rz)
          have ho := heap_alloc_new w4 (obO2 rc ra rb rz)
          have hp4 := row_kept hbo R4.out
          obtain ⟨G1, hG1⟩ : ∃ G1, w4.heap.size = G1 := ⟨_, rfl⟩
          rw [hG1] at ho
          simp only [hG1]
          obtain ⟨X, hX⟩ : ∃ X, w4.alloc (obO2 rc ra rb rz) = X := ⟨_, rfl⟩
          rw [hX] at hbo ho hp4
          simp only [hX]
          have HOX := Lib.hid ho
          have HBO := Lib.hid hbo
          have HBWX := Lib.hid (HBW.out.trans (hbo.mono HBW.out.size))
          obtain ⟨y0, y1, y2⟩ := cells3V hp4
          obtain ⟨o0, o1, o2, o3⟩ := cellsV ho
          clear hX hG1 hb4 hbo ho hp4 hRd
          cases nb with
          | false =>
            have hs := HSTOP.out (by simp)
            rw [if_pos rfl] at hs
            have hR3 := HR2.out
            rw [if_pos (by rw [hs]; simp), hs] at hR3
            subst hR3
            clear hs
            go_upto_region 12 with (first | (go_at_call 100; refine (HNb.out _ HBWX.out).mono ?_; rintro e w5 ⟨rfl, hb5⟩; have hl5 := cell_be hb5 (cell_be HBO.out hla); have B5 := Lib.hid (HBWX.out.trans (hb5.mono HBWX.out.size)); clear hb5 hla y0 y1 y2 o0 o1 o2 o3))
            go_quiet (fail)
            all_goals go_wp2_with fail
            try rw [Exit.noGoto_ret]
            refine bodyPost_ret (results_tmp3 (fn := Tryd.f57) rfl _ _ _) rfl ?_
            first | exact below_drewN0 B5.out _ | exact ⟨⟨_, rfl⟩, below_drewN0 B5.out _⟩ | exact ⟨rfl, below_drewN0 B5.out _⟩ | exact ⟨_, rfl, below_drewN0 B5.out _⟩ | exact ⟨_, rfl, below_drewN0 B5.out _, fun h => absurd h (by decide)⟩
          | true =>
            by_cases hjm : rc = 25 ∨ rc = 26
            · have hq0 := HX1.out
              have hga := HG.out.2.1
              have hzn : n ≤ 4096 := by have h3 := HZ.out; have h4 := HN.out; omega
              obtain ⟨t, htq⟩ : ∃ t : Int, (q : Int) + ra = t := ⟨_, rfl⟩
              have hwd : wrap64 ((q : Int) + ra) = t := by rw [← htq]; exact w64v _ (by omega)
              have hwd' : IntKind.i64.wrap ((q : Int) + ra) = t := by unfold wrap64 at hwd; exact (IntKind.wrap_i64 _).trans hwd
              obtain ⟨bb, hbb⟩ : ∃ bb, decide (t ∈ pl) = bb := ⟨_, rfl⟩
              have hpl : pl.length = J := by rw [HPC.out, HJ.out]; simp [plcs]
              have hBG : ∀ V, Below w3.heap.size w3 V → Calls Tryd.prog 101 #[.slice (some la) J c, .int .i64 t] V fun e w' => e = .returned (.bool bb) ∧ ∃ k, w' = V.drewN k := fun V hV => by
                have h := rbegins_calls (c := c) (l := pl) (by rw [hpl]; exact Kd.C_below HCC.out.1 hV) (by rw [hpl]; exact HCC.out.2) (by omega) t
                rwa [hbb, hpl] at h
              have HBG := Lib.hid hBG
              have hji := HJI.out t
              rw [hbb] at hji
              have HHJ := Lib.hid hji
              have HTQ := Lib.hid htq
              have HJM := Lib.hid hjm
              clear hBG hji hpl hbb htq hga hzn hq0
              cases bb with
              | true =>
                have hbz : badS p m n bg ops[j] = 0 → True := fun _ => trivial
                have HNX : Hid ((opndS p m n bg (ops.take (j + 1))).2 = 0) := Lib.hid (HNEXT.out (by
                  rw [if_neg (by simp), if_neg (fun h => ?_)]
                  have h1 := HHJ.out
                  rw [HTQ.out] at h
                  rw [decide_eq_true h.2] at h1
                  simp at h1))
                clear hbz
                rcases hjm with rfl | rfl
                all_goals
                  go_upto_region 13 with (first | (go_at_call 100; refine (HNb.out _ HBWX.out).mono ?_; rintro e w5 ⟨rfl, hb5⟩; have hl5 := cell_be hb5 (cell_be HBO.out hla); have B5 := Lib.hid (HBWX.out.trans (hb5.mono HBWX.out.size)); have C5 := Lib.hid (HBX.out.trans ((HBO.out.trans (hb5.mono HBO.out.size)).mono HBX.out.size)); clear y0 y1 y2 o0 o1 o2 o3; obtain ⟨o0, o1, o2, o3⟩ := cellsV (row_kept hb5 HOX.out); clear hb5 hla))
                  have HBGk : Hid (∀ kk, Calls Tryd.prog 101 #[.slice (some la) J c, .int .i64 t] (w5.drewN kk) fun e w' => e = .returned (.bool _) ∧ ∃ k, w' = (w5.drewN kk).drewN k) := Lib.hid (fun kk => HBG.out (w5.drewN kk) (below_drewN0 C5.out kk))
                  go_quiet (first | (go_at_call 101; exact Calls.quiet_of (HBGk.out _)))
                  all_goals go_wp2_with fail
                  go_roundg g
                  case measure => omega
                  case rel => exact ⟨j + 1, by omega, by first | rfl | simp, Lib.hid ⟨HNX.out, below_drewN0 C5.out _⟩⟩
              | false =>
                have hs := HSTOP.out (by
                  rw [if_neg (by simp), if_pos]
                  · simp
                  · refine ⟨HJM.out, ?_⟩
                    have h1 := HHJ.out
                    rw [HTQ.out]
                    exact Decidable.byContradiction fun hP => by rw [decide_eq_false hP] at h1; simp at h1)
                rw [if_neg (by simp), if_pos ⟨hjm, by
                    have h1 := HHJ.out
                    rw [HTQ.out]
                    exact Decidable.byContradiction fun hP => by rw [decide_eq_false hP] at h1; simp at h1⟩] at hs
                have hR3 := HR2.out
                rw [if_pos (by rw [hs]; simp), hs] at hR3
                subst hR3
                clear hs
                rcases hjm with rfl | rfl
                all_goals
                  go_upto_region 13 with (first | (go_at_call 100; refine (HNb.out _ HBWX.out).mono ?_; rintro e w5 ⟨rfl, hb5⟩; have hl5 := cell_be hb5 (cell_be HBO.out hla); have B5 := Lib.hid (HBWX.out.trans (hb5.mono HBWX.out.size)); have C5 := Lib.hid (HBX.out.trans ((HBO.out.trans (hb5.mono HBO.out.size)).mono HBX.out.size)); clear y0 y1 y2 o0 o1 o2 o3; obtain ⟨o0, o1, o2, o3⟩ := cellsV (row_kept hb5 HOX.out); clear hb5 hla))
                  have HBGk : Hid (∀ kk, Calls Tryd.prog 101 #[.slice (some la) J c, .int .i64 t] (w5.drewN kk) fun e w' => e = .returned (.bool _) ∧ ∃ k, w' = (w5.drewN kk).drewN k) := Lib.hid (fun kk => HBG.out (w5.drewN kk) (below_drewN0 C5.out kk))
                  go_quiet (first | (go_at_call 101; exact Calls.quiet_of (HBGk.out _)))
                  all_goals go_upto_region 14 with fail
                  go_quiet (fail)
                  all_goals go_wp2_with fail
                  try rw [Exit.noGoto_ret]
                  refine bodyPost_ret (results_tmp3 (fn := Tryd.f57) rfl _ _ _) rfl ?_
                  first | exact below_drewN0 B5.out _ | exact ⟨⟨_, rfl⟩, below_drewN0 B5.out _⟩ | exact ⟨rfl, below_drewN0 B5.out _⟩ | exact ⟨_, rfl, below_drewN0 B5.out _⟩ | exact ⟨_, rfl, below_drewN0 B5.out _, fun h => absurd h (by decide)⟩
            · have e25 : (rc == 25) = false := by rw [beq_eq_false_iff_ne]; exact fun h => hjm (.inl h)
              have e26 : (rc == 26) = false := by rw [beq_eq_false_iff_ne]; exact fun h => hjm (.inr h)
              have HNX : Hid ((opndS p m n bg (ops.take (j + 1))).2 = 0) := Lib.hid (HNEXT.out (by rw [if_neg (by simp), if_neg (fun h => hjm h.1)]))
              clear hjm
              go_upto_region 13 with (first | (go_at_call 100; refine (HNb.out _ HBWX.out).mono ?_; rintro e w5 ⟨rfl, hb5⟩; have hl5 := cell_be hb5 (cell_be HBO.out hla); have B5 := Lib.hid (HBWX.out.trans (hb5.mono HBWX.out.size)); have C5 := Lib.hid (HBX.out.trans ((HBO.out.trans (hb5.mono HBO.out.size)).mono HBX.out.size)); clear y0 y1 y2 o0 o1 o2 o3; obtain ⟨o0, o1, o2, o3⟩ := cellsV (row_kept hb5 HOX.out); clear hb5 hla))
              go_quiet (fail)
              all_goals go_wp2_with fail
              go_roundg g
              case measure => omega
              case rel => exact ⟨j + 1, by omega, by first | rfl | simp, Lib.hid ⟨HNX.out, below_drewN0 C5.out _⟩⟩
    case rest =>
      obtain ⟨HFIN, HBU⟩ := hcut
      simp only [HN.out]
      have hbw := B3.out.trans (HBU.out.mono B3.out.size)
      have hrow := row_kept HBU.out R3.out
      have hR3 := HR2.out
      rw [if_neg (by rw [HFIN.out]; simp)] at hR3
      have hz := HZ.out
      have hnn := HN.out
      have hready : Ready p m := ⟨HBY.out, by omega, by omega, HPZ.out, by rw [hnn, HBGE.out, HOPE.out]; exact HFIN.out, hz.2.1, HF.out⟩
      have hinv := inv_start hready
      rw [hnn] at hinv
      have hn0 : 0 < n := by omega
      have hn4 : n ≤ 4096 := by omega
      have mk1 := make76 n (by omega)
      have mk2 := make73 n (by omega)
      have HRD2 := Lib.hid hready
      have HINV := Lib.hid hinv
      have HR3 := Lib.hid hR3
      have HBWU := Lib.hid hbw
      have HROW := Lib.hid hrow
      clear hbw hrow hR3 hz hready hinv HFIN HBU HPC HJ HOP HJI HR2 HJN HPZ HBGE HOPE HCC HNm B3 R3
      obtain ⟨U, hU⟩ : ∃ U, wc = U := ⟨_, rfl⟩
      rw [hU] at HBWU HROW
      simp only [hU]
      clear hU
      go_upto_region 15 with fail
      go_cut [14] from 153 (fun s Y => NewP U n s Y)
      case first =>
        go_region_held3 (fun w' => True) (trivial)
          (first
            | (refine mk_step (by rfl) 76 (.tmp 93) (by rfl) n (by rfl) (zshp2 n) mk1 ?_)
            | (refine mk_step (by rfl) 73 (.tmp 96) (by rfl) n (by rfl) (bools4 (List.replicate n false)) mk2 ?_)
            | (refine mk_step (by rfl) 73 (.tmp 99) (by rfl) n (by rfl) (bools4 (List.replicate n false)) mk2 ?_))
        all_goals
          go_wp2_with fail
          go_meet
          case rel =>
            first
            | exact new_s0 hn4 true
            | exact new_s0 hn4 false
            | exact new_s1 hn4 true
            | exact new_s1 hn4 false
            | exact new_s2 hn4 true
            | exact new_s2 hn4 false
      case rest =>
        obtain ⟨L, rfl, hSt, hbN⟩ := hcut
        clear mk1 mk2
        obtain ⟨x0, x1, x2⟩ := cells3V hSt.blk
        have xh := cell_bools hSt.hh 0 (by rw [hSt.lh]; exact hn0)
        have fh := Lib.frozen_of_heap hSt.hh 0
        have hst1 := (st_bool hSt hn0).1
        have hb1 := hbN.setCell (p := ⟨L.gh, 0, none⟩) hSt.loh (.bool true)
        have z0 : (0 : Int) < (n : Int) := by omega
        have HS1 := Lib.hid hst1
        have HB1 := Lib.hid hb1
        clear hSt hbN hst1 hb1
        go_upto_block 2 with fail
        clear x0 x1 x2 xh fh z0
        obtain ⟨Z, hZ⟩ : ∃ Z, wc.setCell ⟨L.gh, 0, none⟩ (.bool true) = Z := ⟨_, rfl⟩
        rw [hZ] at HS1 HB1
        simp only [hZ]
        clear hZ
        have HN4 := Lib.hid hn4
        have HN0 := Lib.hid hn0
        go_wp2_with fail
        go_loopg [15] n (fun g s15 wx => ∃ (sh2 : List Shp) (has2 gone : List Bool), Hid (gone.count false = g ∧ InvS m sh2 has2 ∧ StI L n U.heap.size wx sh2 has2 gone ∧ Below U.heap.size U wx ∧ allS p m n (g + 1) sh2 has2 gone = R))
        case atStart => exact ⟨shapes0 n, has0 n, List.replicate n false, Lib.hid ⟨by simp, HINV.out, HS1.out, HB1.out, HR3.out⟩⟩
        case round =>
          obtain ⟨g, rfl⟩ : ∃ g, g = gk := ⟨gk, rfl⟩
          obtain ⟨sh2, has2, gone, HRR⟩ := hrel
          clear HS1 HB1 HINV HR3
          obtain ⟨x0, x1, x2⟩ := cells3V HRR.out.2.2.1.blk
          go_wp2_with fail
          have HX1 := Lib.hid x1
          have HX2 := Lib.hid x2
          clear x0 x1 x2
          go_loopg [15] n (fun g2 s15 wy => ∃ j : Nat, j + g2 = n ∧ s15 = .int .i64 j ∧ Hid (∀ i, i < j → (has2.getD i false && !gone.getD i false) = false) ∧ wr = wy)
          case atStart => exact ⟨0, by omega, rfl, Lib.hid (fun i hi => by omega), rfl⟩
          case round =>
            obtain ⟨j, hjg, rfl, HJ, rfl⟩ := hrel
            obtain ⟨q2, q3, q4, q5, q7⟩ := HRR.out
            have hn4 := HN4.out
            cases gk with
            | zero =>
              have hfin : findS n has2 gone = none := findS_nothing fun i hi => HJ.out i (by omega)
              have hans : R = ((0, 0), (sh2, has2)) := by rw [← q7, allS, hfin]
              have HA2 := Lib.hid (And.intro q4 q5)
              have ht : decide ((j : Int) < (n : Int)) = false := decide_eq_false (by omega)
              have htn : decide (j < n) = false := decide_eq_false (by omega)
              have he : ((j : Int) == (n : Int)) = true := by rw [beq_iff_eq]; omega
              subst hans
              clear q2 q3 q4 q5 q7 hfin
              go_wp2_with fail
              try rw [Exit.noGoto_ret]
              refine bodyPost_ret (results_tmp3 (fn := Tryd.f57) rfl _ _ _) rfl ?_
              have hbb := HBWU.out.trans (HA2.out.2.mono HBWU.out.size)
              have hst := HA2.out.1.lower HBWU.out.size
              have hst' := hst
              rw [← HN.out] at hst'
              first | exact ⟨_, rfl, hbb, ⟨L, rfl, gone, hst⟩⟩ | exact ⟨_, rfl, hbb, ⟨L, rfl, gone, hst'⟩⟩ | exact ⟨_, rfl, hbb, fun _ => ⟨L, gone, rfl, hst'⟩⟩ | exact ⟨_, rfl, hbb, fun _ => ⟨L, gone, rfl, hst⟩⟩
            | succ g2 =>
              have hj : j < n := by omega
              have ht : decide ((j : Int) < (n : Int)) = true := decide_eq_true (by omega)
              have j0 : (0 : Int) ≤ (j : Int) := by omega
              have j1 : (j : Int) < (n : Int) := by omega
              have he : ((j : Int) == (n : Int)) = false := by rw [beq_eq_false_iff_ne]; omega
              have xh := cell_bools q4.hh j (by rw [q4.lh]; exact hj)
              have xd := cell_bools q4.hg j (by rw [q4.lg]; exact hj)
              have x1 := HX1.out
              have x2 := HX2.out
              cases hh : has2.getD j false with
              | false =>
                rw [hh] at xh
                have HH := Lib.hid hh
                clear q2 q3 q4 q5 q7 hh
                go_wp2_with fail
                go_roundg g2
                case measure => omega
                case rel =>
                  refine ⟨j + 1, by omega, by first | rfl | simp, Lib.hid fun i hi => ?_, rfl⟩
                  by_cases hij : i = j
                  · subst hij; rw [HH.out]; first | rfl | (rw [HD.out]; rfl)
                  · exact HJ.out i (by omega)
              | true =>
                rw [hh] at xh
                have HH := Lib.hid hh
                cases hd : gone.getD j false with
                | true =>
                  rw [hd] at xd
                  have HD := Lib.hid hd
                  clear q2 q3 q4 q5 q7 hh hd
                  go_wp2_with fail
                  go_roundg g2
                  case measure => omega
                  case rel =>
                    refine ⟨j + 1, by omega, by first | rfl | simp, Lib.hid fun i hi => ?_, rfl⟩
                    by_cases hij : i = j
                    · subst hij; rw [HH.out]; first | rfl | (rw [HD.out]; rfl)
                    · exact HJ.out i (by omega)
                | false =>
                  rw [hd] at xd
                  have hnn := HN.out
                  have hfin : findS n has2 gone = some j := findS_least (fun i hi => HJ.out i hi) hj (by rw [hh, hd]; rfl)
                  have hst : allS p m n (g + 1) sh2 has2 gone = if (throughS p m n sh2 has2 j).2 ≠ 0 then (((j : Int), (throughS p m n sh2 has2 j).2), (throughS p m n sh2 has2 j).1) else allS p m n g (throughS p m n sh2 has2 j).1.1 (throughS p m n sh2 has2 j).1.2 (gone.set j true) := by rw [allS, hfin]
                  have hkeep := keeps_inv (E := { G := 0, gb := 0, gs := 0, gh := 0, n := n, A0 := none, c0 := 0, A1 := none, c1 := 0, A2 := none, c2 := 0, B0 := none, d0 := 0, B2 := none, d2 := 0, B4 := none, d4 := 0, p := p, m := m, begins := [] }) HRD2.out hnn.symm
                  obtain ⟨hgood, hh0, hh1, hlen, hfl⟩ := hkeep.at' sh2 has2 j q3 hj hh
                  have hon := hkeep.on' sh2 has2 j q3 hj hh
                  dsimp only at hgood hlen hfl hon
                  have hcnt := count_done (done := gone) (i := j) (by rw [q4.lg]; exact hj) hd
                  have hfine := fine_at HRD2.out j (q3.at' j hh).1
                  have hend := readAt_end m.f4 j (by omega) hgood.err
                  have hsz := hgood.size
                  have w1 := (st_bool q4 hj).2
                  have w2 : Below U.heap.size U (wr.setCell ⟨L.gg, j, none⟩ (.bool true)) := q5.setCell (p := ⟨L.gg, j, none⟩) q4.log _
                  have fd := Lib.frozen_of_heap q4.hg j
                  have hmm := HMM.out
                  have cT := rthrough_calls (L := L) (n := n) (HX.out.1.below HBWU.out) HF.out k HX.out.2.1 HX.out.2.2 (by rw [hmm]; exact hnn.symm) w1 w2 j (by rw [hmm]; exact hgood) hh0 hh1 hlen (by rw [hmm]; exact hfl) (by rw [hmm]; omega) (by rw [hmm]; exact fun h => by have := (hfine.jump h).1; omega)
                  rw [hmm] at cT
                  obtain ⟨⟨⟨sh3, has3⟩, kk⟩, hr⟩ : ∃ r, throughS p m n sh2 has2 j = r := ⟨_, rfl⟩
                  rw [hr] at cT hst hon
                  rw [q7] at hst
                  obtain ⟨y0, y1, y2⟩ := cells3V (row_kept q5 HROW.out)
                  have y0 := (cell_far (p := ⟨L.gg, j, none⟩) (a := ⟨w.heap.size, 0, none⟩) (by have h1 := q4.log; have h2 := (Array.getElem?_eq_some_iff.1 HROW.out).1; show w.heap.size ≠ L.gg; omega) (.bool true)).trans y0
                  have y1 := (cell_far (p := ⟨L.gg, j, none⟩) (a := ⟨w.heap.size, 1, none⟩) (by have h1 := q4.log; have h2 := (Array.getElem?_eq_some_iff.1 HROW.out).1; show w.heap.size ≠ L.gg; omega) (.bool true)).trans y1
                  have y2 := (cell_far (p := ⟨L.gg, j, none⟩) (a := ⟨w.heap.size, 2, none⟩) (by have h1 := q4.log; have h2 := (Array.getElem?_eq_some_iff.1 HROW.out).1; show w.heap.size ≠ L.gg; omega) (.bool true)).trans y2
                  have HON := Lib.hid hon
                  have HST := Lib.hid hst
                  have HC := Lib.hid hcnt
                  have HQ2 := Lib.hid q2
                  clear q2 q3 q4 q5 q7 hfin hst hon hcnt w1 w2 hr hgood hh0 hh1 hlen hfl hh hd hkeep hfine hend hsz hmm hnn
                  by_cases hk : kk = 0
                  · subst hk
                    go_wp2_with (first | (go_at_call 102; refine cT.mono ?_; rintro e w4 ⟨rfl, hW4, hB4, hF4⟩))
                    have hc1 := HC.out
                    have hc2 := HQ2.out
                    go_roundg ((gone.set j true).count false)
                    case measure => omega
                    case rel =>
                      refine ⟨sh3, has3, gone.set j true, Lib.hid ⟨rfl, HON.out (by first | rfl | trivial), hW4, hB4, ?_⟩⟩
                      rw [show (gone.set j true).count false + 1 = g by omega, HST.out]
                      rfl
                  · have hkt : (kk != 0) = true := by simp [hk]
                    have h2 := HST.out
                    rw [if_pos hk] at h2
                    subst h2
                    have HK0 := Lib.hid hk
                    clear hk
                    go_wp2_with (first | (go_at_call 102; refine cT.mono ?_; rintro e w4 ⟨rfl, hW4, hB4, hF4⟩))
                    try rw [Exit.noGoto_ret]
                    refine bodyPost_ret (results_tmp3 (fn := Tryd.f57) rfl _ _ _) rfl ?_
                    exact ⟨_, rfl, HBWU.out.trans (hB4.mono HBWU.out.size), fun h => absurd h HK0.out⟩
  · have t0 : (pe != 0) = true := by simpa using hp0
    have hRR := HRR.out
    rw [if_pos (by rw [hpe]; exact hp0), hpe] at hRR
    subst hRR
    clear HRR
    go_enter Tryd.func57, Tryd.ntmps57
    go_wp2_with (first | (go_at_call 58; refine HC.out.mono ?_; rintro e w1 ⟨rfl, hb1⟩; clear y0 y1 y2; obtain ⟨y0, y1, y2⟩ := cells3V (row_kept hb1 HR.out); have B1 := Lib.hid (HA.out.trans (hb1.mono HA.out.size)); have R1 := Lib.hid (row_kept hb1 HR.out); clear hb1) | (go_at_call 99; refine (HI.out _).mono ?_; rintro e w2 ⟨rfl, hb2⟩; clear y0 y1 y2; obtain ⟨y0, y1, y2⟩ := cells3V (row_kept hb2 R1.out); have B2 := Lib.hid (B1.out.trans (hb2.mono B1.out.size)); have R2 := Lib.hid (row_kept hb2 R1.out); have m4 := cell_be B2.out HM.out.m4; clear hb2) | (go_at_call 17; refine (HPl.out _ B2.out).mono ?_; rintro e w3 ⟨A, c, z, rfl, hzz, ho, hb3⟩; have B3 := Lib.hid (B2.out.trans (hb3.mono B2.out.size)); have HZZ := Lib.hid hzz; clear hb3 ho hzz))
    refine bodyPost_ret (results_tmp3 (fn := Tryd.f57) rfl _ _ _) rfl ?_
    exact ⟨_, by rw [HZZ.out hp0]; rfl, B3.out, fun h => absurd h hp0⟩
end
end Go.Proofs.YtkphijabhoppnaaDoor
