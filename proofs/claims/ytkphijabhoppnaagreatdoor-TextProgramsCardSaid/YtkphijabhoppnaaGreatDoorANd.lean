/- The law of programs (brazierlaw5.TextPrograms) walked. -/
import Derived.Test.YtkphijabhoppnaaGreatDoorANb
import Derived.Test.YtkphijabhoppnaaGreatDoorANc
namespace Go.Proofs.YtkphijabhoppnaaGreatDoor
open Go.RowKit Go.Shelf Go.Proofs.YtkphijabhoppnaaGreatDoorW.PrintWords
open Go.Proofs.YtkphijabhoppnaaGreatDoor.PTextPrograms
set_option linter.unusedSimpArgs false
set_option linter.unusedVariables false
attribute [local go_sem] Oper.semAt_some
structure TpS (w2 : World) (vl : Value) (s : ByteArray) (n : Int) (V : World) : Prop where
  bC : Boxed V w2.heap.size 24 vl
  bS : Boxed V (w2.heap.size + 1) 9 (.string s)
  bN : Boxed V (w2.heap.size + 2) 3 (.int .i64 n)
  below : Below w2.heap.size w2 V
  size : w2.heap.size + 3 ≤ V.heap.size
theorem TpS.turn {w2 : World} {vl : Value} {s : ByteArray} {n : Int} {V V' : World} {row : Option Nat} (h : TpS w2 vl s n V) (hg : V.grownBy V' row) (hr : ∀ r, row = some r → w2.heap.size + 3 ≤ r) : TpS w2 vl s n V' := by
  have hne : ∀ b, b < w2.heap.size + 3 → some b ≠ row := fun b hb e => by have := hr b e.symm; omega
  exact ⟨h.bC.kept hg (hne _ (by omega)), h.bS.kept hg (hne _ (by omega)), h.bN.kept hg (hne _ (by omega)), h.below.trans ⟨hg.os, hg.tape, hg.output, hg.size, fun k hk => hg.block k (by have := h.size; omega) (hne _ (by omega))⟩, Nat.le_trans h.size hg.size⟩
theorem TpS.own {w2 : World} {vl : Value} {s : ByteArray} {n : Int} {V : World} (h : TpS w2 vl s n V) (b : Nat) (u : Value) (hb : w2.heap.size + 3 ≤ b) : TpS w2 vl s n (V.setCell ⟨b, 0, none⟩ u) :=
  ⟨h.bC.other (by omega) _, h.bS.other (by omega) _, h.bN.other (by omega) _, h.below.setCell (p := ⟨b, 0, none⟩) (by simp; omega) _, by simpa [World.setCell] using h.size⟩
theorem TpS.setN {w2 : World} {vl : Value} {s : ByteArray} {n : Int} {V : World} (h : TpS w2 vl s n V) (m : Int) : TpS w2 vl s m (V.setCell ⟨w2.heap.size + 2, 0, none⟩ (.int .i64 m)) :=
  ⟨h.bC.other (by omega) _, h.bS.other (by omega) _, h.bN.set _, h.below.setCell (p := ⟨w2.heap.size + 2, 0, none⟩) (by simp) _, by simpa [World.setCell] using h.size⟩
theorem TpS.later {w2 : World} {vl : Value} {s : ByteArray} {n : Int} {V V' : World} (h : TpS w2 vl s n V) (hb : Below V.heap.size V V') : TpS w2 vl s n V' := h.turn (grown_bel hb) (fun r e => by cases e)
theorem prgL_len : ∀ (l : List (Nat × List UInt8)) (out : List IR), (prgL l out).1.length ≤ out.length + l.length := by
  intro l
  induction l with
  | nil => intro out; simp [prgL]
  | cons x r ih =>
    intro out
    rw [prgL]
    cases h : parO x.2 with
    | none => simp
    | some i =>
      have := ih (out ++ [i])
      simp at this ⊢
      omega
theorem progS_len (s : ByteArray) : (progS s).1.length ≤ s.size + 1 := by
  have h1 := prgL_len (outsL 0 (linesB s)) []
  have h2 := outsL_len (linesB s) 0
  have h3 := linesB_len s
  rw [progS]
  simp at h1
  omega
theorem pre_snoc {ls pre : List (Nat × List UInt8)} {x : Nat × List UInt8} (h : pre <+: ls) : (pre ++ [x] <+: ls) ↔ ls[pre.length]? = some x := by
  obtain ⟨t, rfl⟩ := h
  constructor
  · rintro ⟨r, hr⟩
    rw [List.append_assoc] at hr
    have := List.append_cancel_left hr
    rw [List.getElem?_append_right (Nat.le_refl _), Nat.sub_self, ← this]; rfl
  · intro h
    rw [List.getElem?_append_right (Nat.le_refl _), Nat.sub_self] at h
    cases t with
    | nil => cases h
    | cons y t => obtain rfl : y = x := by simpa using h
                  exact ⟨t, by simp⟩
set_option maxHeartbeats 8000000 in
set_option maxRecDepth 100000 in
theorem TextPrograms_calls (s : ByteArray) (v : Value) (l : List IR) (st : Int) (w : World) (hv : Inss w v l) (hcap : ∀ A n c, v = .slice A n c → n ≤ c) (hG : GlobT w) :
    Calls Tryz.prog 3 #[.string s, v, .int .i64 st] w fun e w' => e = .returned (.bool true) ∧ Below w.heap.size w w' := by
  have HV := Lib.hid hv
  have HCap := Lib.hid hcap
  have hv0 := hv
  obtain ⟨A, c, rfl, -⟩ := hv0
  have HG := Lib.hid hG
  clear hv hcap hG
  refine (callsIn_wide (n := 6)).1 ?_
  refine callsIn_of_wp_marks Tryz.func3 rfl trivial ?_ rfl
  simp only [Tryz.ntmps3, List.size_toArray, List.length_cons, List.length_nil, Nat.reduceAdd, Nat.reduceSub, Array.replicate_succ, Array.replicate_zero, List.push_toArray, List.append_toArray, List.nil_append, List.cons_append]
  refine wpIn_wide.2 ?_
  have HA0 : Hid (Below w.heap.size w (((w.alloc (.cells #[.int .i64 st] 3)).alloc (.cells #[.bool false] 4)))) := Lib.hid (((Below.refl _ w).alloc (Nat.le_refl _) _).alloc (by simp) _)
  have HA1 : Hid (Boxed (((w.alloc (.cells #[.int .i64 st] 3)).alloc (.cells #[.bool false] 4))) w.heap.size 3 (.int .i64 st) ∧ Boxed (((w.alloc (.cells #[.int .i64 st] 3)).alloc (.cells #[.bool false] 4))) (w.heap.size + 1) 4 (.bool false)) := Lib.hid ⟨(by unfold Boxed; rw [heap_al, heap_al, Array.getElem?_push_lt (by simp), Array.getElem_push_eq]), (by have := heap_alloc_new (w.alloc (.cells #[.int .i64 st] 3)) (.cells #[.bool false] 4); rw [show (w.alloc (.cells #[.int .i64 st] 3)).heap.size = w.heap.size + 1 by simp] at this; exact this)⟩
  by_cases h1 : (8192 : Int) < s.size
  · have q1 : decide ((s.size : Int) > 8192) = true := decide_eq_true h1
    go_wp2_with (first | (go_at_call 5; refine (known5_calls _ (HG.out.below HA0.out)).mono ?_; rintro e w1 ⟨rfl, hb1⟩; have HB1 := Lib.hid (HA0.out.trans (hb1.mono HA0.out.size)); have k1 := box_bel HA1.out.2 hb1; have c1 := k1.cell; have f1 := k1.frozen; have HK1 := Lib.hid k1; clear hb1 k1) | fail)
    refine ⟨_, results_c1 (fn := Tryz.f3) rfl rfl (load_b (HK1.out.set _).cell (by kernel_rfl)), ?_⟩
    exact ⟨rfl, HB1.out.setCell (by simp) _⟩
  have q1 : decide ((s.size : Int) > 8192) = false := decide_eq_false h1
  by_cases h2 : (500 : Int) < l.length
  · have q2 : decide ((l.length : Int) > 500) = true := decide_eq_true h2
    go_wp2_with (first | (go_at_call 5; refine (known5_calls _ (HG.out.below HA0.out)).mono ?_; rintro e w1 ⟨rfl, hb1⟩; have HB1 := Lib.hid (HA0.out.trans (hb1.mono HA0.out.size)); have k1 := box_bel HA1.out.2 hb1; have c1 := k1.cell; have f1 := k1.frozen; have HK1 := Lib.hid k1; clear hb1 k1) | fail)
    refine ⟨_, results_c1 (fn := Tryz.f3) rfl rfl (load_b (HK1.out.set _).cell (by kernel_rfl)), ?_⟩
    exact ⟨rfl, HB1.out.setCell (by simp) _⟩
  have q2 : decide ((l.length : Int) > 500) = false := decide_eq_false h2
  have HS : Hid (s.size ≤ 8192) := Lib.hid (by omega)
  have HL : Hid (l.length ≤ 500) := Lib.hid (by omega)
  obtain ⟨ls, hls⟩ : ∃ ls, outsL 0 (linesB s) = ls := ⟨_, rfl⟩
  have HLs := Lib.hid hls
  have HR : Hid (∀ W, Calls Tryz.prog 6 #[.string s] W fun e w' => ∃ v, e = .returned v ∧ Lns w' v ls ∧ Below W.heap.size W w') := Lib.hid (fun W => by have := RLines_calls s W (by have := HS.out; omega); rwa [hls] at this)
  have hll : ls.length ≤ 8193 := by
    have h1 := outsL_len (linesB s) 0
    have h2 := linesB_len s
    have h3 := HS.out
    rw [hls] at h1; omega
  clear hls
  go_wp2_with (first | (go_at_call 5; refine (known5_calls _ (HG.out.below HA0.out)).mono ?_; rintro e w1 ⟨rfl, hb1⟩; have HB1 := Lib.hid (HA0.out.trans (hb1.mono HA0.out.size)); have HK1 := Lib.hid (And.intro (box_bel HA1.out.1 hb1) (box_bel HA1.out.2 hb1)); clear hb1) | (go_at_call 6; refine (HR.out _).mono ?_; rintro e w2 ⟨v2, rfl, hl2, hb2⟩; have HB2 := Lib.hid (HB1.out.trans (hb2.mono HB1.out.size)); have HK2 := Lib.hid (And.intro (box_bel HK1.out.1 hb2) (box_bel HK1.out.2 hb2)); obtain ⟨A2, c2, rfl, hx2⟩ := hl2; have HX2 := Lib.hid hx2; clear hb2 hx2) | (go_at_call 7; refine (Lines_calls _ _).mono ?_; rintro e w3 ⟨rfl, rfl⟩) | fail)
  clear q1 q2 h1 h2
  simp only [Nat.add_assoc, Nat.reduceAdd]
  obtain ⟨W0, hW0⟩ : ∃ W0, (((w2.alloc (Obj.cells #[Value.slice A2 ls.length c2] 24)).alloc (Obj.cells #[Value.string s] 9)).alloc (Obj.cells #[Value.int IntKind.i64 0] 3)) = W0 := ⟨_, rfl⟩
  have hz : W0.heap.size = w2.heap.size + 3 := by rw [← hW0]; simp
  have P00 : TpS w2 (.slice A2 ls.length c2) s 0 W0 := by
    have zz : (Boxed W0 w2.heap.size 24 (.slice A2 ls.length c2) ∧ Boxed W0 (w2.heap.size + 1) 9 (.string s)) ∧ Boxed W0 (w2.heap.size + 2) 3 (.int .i64 0) := by
      rw [← hW0]
      unfold Boxed
      simp [heap_al, Array.getElem_push, Nat.add_assoc]
    refine ⟨zz.1.1, zz.1.2, zz.2, ?_, by omega⟩
    rw [← hW0]
    exact (((Below.refl _ w2).alloc (Nat.le_refl _) _).alloc (by simp) _).alloc (by simp; omega) _
  rw [hW0]
  clear hW0
  refine (wpIn_wide (n := 6)).1 ?_
  refine rangeFunc_x (M := 5) rfl (by omega) (gf := 15) (lb := #[.pointer (some ⟨w2.heap.size + 1, 0, none⟩)]) rfl trivial (enters_of Tryz.func15 (by kernel_rfl) rfl)
    (lines_iter s (by have := HS.out; omega) _ (by omega) (w2.heap.size + 1) W0 P00.bS) (Below.refl _ _) (fun _ => rfl)
    (fun pre W => TpS w2 (.slice A2 ls.length c2) s (pre.length : Nat) W)
    (fun c pre W => (∃ n, TpS w2 (.slice A2 ls.length c2) s n W) ∧ c = .exit 0)
    ?hI ?hIx ?hIb ?hIxb ?hIG P00 (fun x b W => True) (fun _ _ _ _ _ _ _ _ _ => trivial) (fun x b a => (a.setIfInBounds 34 (.int .i64 x.1.1)).setIfInBounds 35 (.string ⟨x.1.2.toArray⟩)) ?assign ?body ?done ?stop
  case hI =>
    rintro pre A C row P hg hr
    exact P.turn hg (fun r e => by have := (hr r e).1; omega)
  case hIx =>
    rintro c pre A C row ⟨⟨n, P⟩, hc⟩ hg hr
    exact ⟨⟨n, P.turn hg (fun r e => by have := (hr r e).1; omega)⟩, hc⟩
  case hIb =>
    rintro pre A b u h1 h2 P
    exact P.own b u (by omega)
  case hIxb =>
    rintro c pre A b u h1 h2 ⟨⟨n, P⟩, hc⟩
    exact ⟨⟨n, P.own b u (by omega)⟩, hc⟩
  case hIG =>
    rintro pre A P
    exact (HG.out.below HB2.out).below P.below
  case assign =>
    rintro q pre x W K hI hK
    dsimp only [encL]
    gi_wp2
    exact hK 0 W (KeepsFrom.refl _ _) ((KpX.bel (Below.refl _ _))) hI trivial
  case body =>
    rintro q pre x b W hq ⟨r, hr⟩ P0 - hlen hsz
    have hN := linesB_len s
    have hL := HS.out
    have c5 := (box_bel HK2.out.1 P0.below).cell
    have cN := P0.bN.cell
    have fN := P0.bN.frozen
    have hBC := HK2.out.2.lt
    have hA1 : ¬ (w.heap.size = w2.heap.size + 2) := by omega
    have hA2 : ¬ (w2.heap.size + 2 = w.heap.size) := by omega
    have HP0 := Lib.hid P0
    obtain ⟨n, hn⟩ : ∃ n, pre.length = n := ⟨_, rfl⟩
    have hn1 : n ≤ 8193 := by omega
    have hln : (pre ++ [x]).length = n + 1 := by simp [hn]
    have HLN := Lib.hid hln
    rw [hn] at cN
    clear P0 P00 hln hr hN
    simp only [List.setIfInBounds_toArray, List.set_cons_succ, List.set_cons_zero]
    by_cases hgt : st < (n : Int) + 1
    · gi_wp2_with fail
      exact ⟨(KeepsOthers.setCell _ _ _).from _, ⟨_, HP0.out.setN _⟩, rfl⟩
    · gi_wp2_with fail
      refine ⟨(KeepsOthers.setCell _ _ _).from _, KpX.set _ _ (by omega), ?_⟩
      show TpS w2 (.slice A2 ls.length c2) s ((pre ++ [x]).length : Nat) _
      have := HP0.out.setN ((n : Int) + 1)
      rw [HLN.out, show ((n + 1 : Nat) : Int) = (n : Int) + 1 by omega]
      exact this
  case stop =>
    rintro D c pre W hD hpre ⟨⟨n, P⟩, rfl⟩ hK
    have hDl : D < W.heap.size := (Array.getElem?_eq_some_iff.1 hK).1
    have HP := Lib.hid P
    have HKD := Lib.hid hK
    have cN := P.bN.cell
    have fN := P.bN.frozen
    clear P hK P00
    refine wpIn_wide.2 ?_
    go_wp2_with fail
    obtain ⟨W1, hW1⟩ : ∃ W1, W.setCell ⟨w2.heap.size + 2, 0, none⟩ (.int .i64 0) = W1 := ⟨_, rfl⟩
    have P1 : TpS w2 (.slice A2 ls.length c2) s 0 W1 := by rw [← hW1]; exact HP.out.setN 0
    have k1 : W1.heap[D]? = some (.deferred (some [])) := by rw [← hW1]; exact (KeepsOthers.setCell _ _ _).same _ _ HKD.out rfl
    have hz1 : W1.heap.size = W.heap.size := by rw [← hW1]; simp [World.setCell]
    have hPs := P1.size
    rw [hW1]
    clear hW1 cN fN HP HKD
    refine (wpIn_wide (n := 6)).1 ?_
    refine rangeFunc_x (M := 5) rfl (by omega) (gf := 15) (lb := #[.pointer (some ⟨w2.heap.size + 1, 0, none⟩)]) rfl trivial (enters_of Tryz.func15 (by kernel_rfl) rfl)
      (lines_iter s (by have := HS.out; omega) _ (by omega) (w2.heap.size + 1) W1 P1.bS) (Below.refl _ _) (fun _ => rfl)
      (fun pre W => TpS w2 (.slice A2 ls.length c2) s (pre.length : Nat) W ∧ W.heap[D]? = some (.deferred (some [])) ∧ ovals pre <+: ls)
      (fun c pre W => (¬ ovals pre <+: ls) ∧ c = .ret)
      ?hI2 ?hIx2 ?hIb2 ?hIxb2 ?hIG2 ⟨P1, k1, List.nil_prefix⟩ (fun x b W => True) (fun _ _ _ _ _ _ _ _ _ => trivial) (fun x b a => (((a.setIfInBounds 42 (.int .i64 x.1.1)).setIfInBounds 43 (.string ⟨x.1.2.toArray⟩)).setIfInBounds 10 (.int .i64 x.1.1)).setIfInBounds 11 (.string ⟨x.1.2.toArray⟩)) ?assign2 ?body2 ?done2 ?stop2
    case hI2 =>
      rintro pre A C row ⟨P, k, hp⟩ hg hr
      exact ⟨P.turn hg (fun r e => by have := (hr r e).1; omega), rec_turn hg (fun r e => by have := (hr r e).1; omega) k, hp⟩
    case hIx2 =>
      rintro c pre A C row h hg hr
      exact h
    case hIb2 =>
      rintro pre A b u h1 h2 ⟨P, k, hp⟩
      exact ⟨P.own b u (by omega), (heap_setCell_ne A b 0 D u (by omega)).trans k, hp⟩
    case hIxb2 =>
      rintro c pre A b u h1 h2 h
      exact h
    case hIG2 =>
      rintro pre A ⟨P, -, -⟩
      exact (HG.out.below HB2.out).below P.below
    case assign2 =>
      rintro q pre x W K hI hK
      dsimp only [encL]
      gi_wp2
      exact hK 0 W (KeepsFrom.refl _ _) ((KpX.bel (Below.refl _ _))) hI trivial
    case body2 =>
      rintro q pre x b W2 hq ⟨r, hr⟩ ⟨P0, kD, hpre⟩ - hlen hsz
      have hN := linesB_len s
      have hL := HS.out
      have c6 := (box_bel HK2.out.2 P0.below).cell
      have f6 := (box_bel HK2.out.2 P0.below).frozen
      have cC := P0.bC.cell
      have cN := P0.bN.cell
      have fN := P0.bN.frozen
      obtain ⟨⟨k, t⟩, hkt⟩ : ∃ p : Nat × List UInt8, x.1 = p := ⟨_, rfl⟩
      have hos : ovals (pre ++ [x]) = ovals pre ++ [(k, t)] := by rw [ovals_snoc, hkt]
      have hol : (ovals pre).length = pre.length := by simp [ovals]
      have hps := pre_snoc (x := (k, t)) hpre
      rw [hol, ← hos] at hps
      have HPS := Lib.hid hps
      have HP0 := Lib.hid P0
      have HKd := Lib.hid kD
      obtain ⟨n, hn⟩ : ∃ n, pre.length = n := ⟨_, rfl⟩
      have hn1 : n ≤ 8193 := by omega
      have hln : (pre ++ [x]).length = n + 1 := by simp [hn]
      have HLN := Lib.hid hln
      rw [hn] at cN
      have HN := Lib.hid hn
      clear P0 kD hps hos hol hpre hln hr hN
      simp only [List.setIfInBounds_toArray, List.set_cons_succ, List.set_cons_zero, hkt]
      by_cases hge : n < ls.length
      · obtain ⟨⟨k', t'⟩, hy⟩ : ∃ y, ls[n]'hge = y := ⟨_, rfl⟩
        have hy' : ls[n]? = some (k', t') := by rw [List.getElem?_eq_getElem hge, hy]
        obtain ⟨A3, c3, e3, hx3⟩ := (show Lns w2 (.slice A2 ls.length c2) ls from ⟨A2, c2, rfl, HX2.out⟩).below HP0.out.below
        cases e3
        obtain ⟨bb, off, rfl, hcs⟩ := hx3 (fun e => by rw [e] at hge; simp at hge)
        obtain ⟨x0, x1⟩ := hcs n (k', t') hy'
        dsimp only at x0 x1
        have HY := Lib.hid hy'
        clear hx3 hcs hy hy'
        by_cases hk : k' = k
        · subst hk
          by_cases ht : t' = t
          · subst ht
            gi_wp2_with fail
            refine ⟨(KeepsOthers.setCell _ _ _).from _, KpX.set _ _ (by omega), ?_, ?_, ?_⟩
            · have := HP0.out.setN ((n : Int) + 1)
              rw [HLN.out, show ((n + 1 : Nat) : Int) = (n : Int) + 1 by omega]
              exact this
            · exact (KeepsOthers.setCell _ _ _).same _ _ HKd.out rfl
            · exact HPS.out.2 (by rw [HN.out]; exact HY.out)
          · have hne : ¬ (⟨t'.toArray⟩ : ByteArray) = ⟨t.toArray⟩ := fun e => ht (by simpa using congrArg (fun z => z.data.toList) e)
            have hbn : ((⟨t'.toArray⟩ : ByteArray).toList != (⟨t.toArray⟩ : ByteArray).toList) = true := by rw [be_list, be_list, bne_iff_ne]; exact ht
            have hbe : ((⟨t'.toArray⟩ : ByteArray).toList == (⟨t.toArray⟩ : ByteArray).toList) = false := by rw [be_list, be_list, beq_eq_false_iff_ne]; exact ht
            have hb3 : (t' == t) = false := beq_eq_false_iff_ne.2 ht
            gi_wp2_with fail
            refine ⟨(KeepsOthers.setCell _ _ _).from _, ?_, rfl⟩
            intro hp
            have := HPS.out.1 hp
            rw [HN.out, HY.out] at this
            simp at this
            exact ht this
            all_goals (exfalso; rename_i hq; simp [hb3] at hq)
        · have hki : ¬ ((k' : Int) = k) := by omega
          have hkb : ((k' : Int) != k) = true := by rw [bne_iff_ne]; exact hki
          gi_wp2_with fail
          refine ⟨(KeepsOthers.setCell _ _ _).from _, ?_, rfl⟩
          intro hp
          have := HPS.out.1 hp
          rw [HN.out, HY.out] at this
          simp at this
          omega
      · have hge2 : (ls.length : Int) ≤ n := by omega
        gi_wp2_with fail
        refine ⟨(KeepsOthers.setCell _ _ _).from _, ?_, rfl⟩
        intro hp
        have := HPS.out.1 hp
        rw [HN.out, List.getElem?_eq_none (by omega)] at this
        cases this
    case stop2 =>
      rintro D2 c pre W2 hD2 hp2 ⟨hno, rfl⟩ hK2
      exact absurd (HLs.out ▸ hp2) hno
    case done2 =>
      rintro D2 xs W2 hD2 hxs ⟨P2, kD, hpre⟩ kD2
      have hxl : xs.length = ls.length := by rw [← HLs.out, ← hxs]; simp [ovals]
      have cN2 := P2.bN.cell
      rw [hxl] at cN2
      have cC := P2.bC.cell
      obtain ⟨⟨r, k, e⟩, hps⟩ : ∃ q, progS s = q := ⟨_, rfl⟩
      have hrl : r.length ≤ 1000000 := by
        have h := progS_len s
        have h3 := HS.out
        rw [hps] at h
        dsimp only at h
        omega
      have HWB := Lib.hid (HB2.out.trans (P2.below.mono HB2.out.size))
      have HPr : Hid (∀ W, Below w.heap.size w W → Calls Tryz.prog 8 #[.slice A l.length c] W fun e w' => e = .returned (.string ⟨(textP l).toArray⟩) ∧ Below W.heap.size W w') := Lib.hid (fun W hW => Print_calls _ l W (HV.out.below hW) (by have := HL.out; omega) (HG.out.below hW))
      have HRp : Hid (∀ W, Below w.heap.size w W → Calls Tryz.prog 9 #[.slice A l.length c] W fun e w' => e = .returned (.string ⟨(textP l).toArray⟩) ∧ Below W.heap.size W w') := Lib.hid (fun W hW => RPrint_calls _ l W (HV.out.below hW) (by have := HL.out; omega) HCap.out)
      have HPg : Hid (∀ W, Below w.heap.size w W → Calls Tryz.prog 10 #[.string s] W fun e' w' => ∃ v', e' = .returned (.tuple #[v', .int .i64 k, .int .i64 e]) ∧ Inss w' v' r ∧ Below W.heap.size W w') := Lib.hid (fun W hW => by
        refine (Program_calls s W (by have := HS.out; omega) (HG.out.below hW)).mono ?_
        rintro e' w' ⟨v', h1, h2, h3⟩
        rw [hps] at h1 h2
        exact ⟨v', h1, inss_own h2, h3⟩)
      have HRg : Hid (∀ W, Calls Tryz.prog 11 #[.string s] W fun e' w' => ∃ v', e' = .returned (.tuple #[v', .int .i64 k, .int .i64 e]) ∧ Inss w' v' r ∧ Below W.heap.size W w') := Lib.hid (fun W => by
        refine (RProgram_calls s W (by have := HS.out; omega)).mono ?_
        rintro e' w' ⟨v', h1, h2, h3⟩
        rw [hps] at h1 h2
        exact ⟨v', h1, inss_own h2, h3⟩)
      have HP2 := Lib.hid P2
      have HD1 := Lib.hid kD
      have HD2 := Lib.hid kD2
      have hDD : D < D2 := by omega
      clear P2 kD kD2 hpre hxs P1 k1
      go_wp2_with (first | (go_at_call 8; refine (HPr.out _ HWB.out).mono ?_; rintro e' w4 ⟨rfl, hb4⟩; have HB4 := Lib.hid hb4; clear hb4) | (go_at_call 9; refine (HRp.out _ (HWB.out.trans (HB4.out.mono HWB.out.size))).mono ?_; rintro e' w5 ⟨rfl, hb5⟩; have HB5 := Lib.hid (HB4.out.trans (hb5.mono HB4.out.size)); clear hb5) | (go_at_call 10; refine (HPg.out _ (HWB.out.trans (HB5.out.mono HWB.out.size))).mono ?_; rintro e' w6 ⟨v6, rfl, hi6, hb6⟩; obtain ⟨A6, c6, rfl, hx6⟩ := hi6; have HX6 := Lib.hid (show Inss w6 (.slice A6 r.length c6) r from ⟨A6, c6, rfl, hx6⟩); have HB6 := Lib.hid (HB5.out.trans (hb6.mono HB5.out.size)); clear hb6 hx6) | (go_at_call 11; refine (HRg.out _).mono ?_; rintro e' w7 ⟨v7, rfl, hi7, hb7⟩; obtain ⟨A7, c7, rfl, hx7⟩ := hi7; have HX7 := Lib.hid hx7; have HY6 := Lib.hid (HX6.out.below hb7); have HB7 := Lib.hid (HB6.out.trans (hb7.mono HB6.out.size)); clear hb7 hx7) | fail)
      obtain ⟨A8, c8, e8, hx8⟩ := HY6.out
      cases e8
      have HX8 := Lib.hid hx8
      clear hx8 HPg HPr HRp HRg HY6 HX6
      go_loopw [18] (fun a wr => ∃ j : Nat, a = .int .i64 j ∧ j ≤ r.length ∧ Below w7.heap.size w7 wr) (fun a _ => r.length - (intOf a).toNat)
      case atStart => exact ⟨0, rfl, by omega, Below.refl _ _⟩
      case round =>
        obtain ⟨j, rfl, hj2, hB⟩ := hrel
        by_cases hlt : j < r.length
        · obtain ⟨i, hi⟩ : ∃ i, r[j]'hlt = i := ⟨_, rfl⟩
          have hi' : r[j]? = some i := by rw [List.getElem?_eq_getElem hlt, hi]
          obtain ⟨b, off, rfl, hcs⟩ := HX8.out (fun e => by rw [e] at hlt; simp at hlt)
          obtain ⟨b2, off2, rfl, hcs2⟩ := HX7.out (fun e => by rw [e] at hlt; simp at hlt)
          have hc := hcs j i hi'
          have hd := hcs2 j i hi'
          have x0 := cell_be hB (hc 0 (.int .i64 i.op) rfl)
          have x1 := cell_be hB (hc 1 (.int .i64 i.d) rfl)
          have x2 := cell_be hB (hc 2 (.int .i64 i.n) rfl)
          have x3 := cell_be hB (hc 3 (.int .i64 i.m) rfl)
          have x4 := cell_be hB (hc 4 (.int .i64 i.a) rfl)
          have x5 := cell_be hB (hc 5 (.int .i64 i.cond) rfl)
          have x6 := cell_be hB (hc 6 (.int .i64 i.imm) rfl)
          have y0 := cell_be hB (hd 0 (.int .i64 i.op) rfl)
          have y1 := cell_be hB (hd 1 (.int .i64 i.d) rfl)
          have y2 := cell_be hB (hd 2 (.int .i64 i.n) rfl)
          have y3 := cell_be hB (hd 3 (.int .i64 i.m) rfl)
          have y4 := cell_be hB (hd 4 (.int .i64 i.a) rfl)
          have y5 := cell_be hB (hd 5 (.int .i64 i.cond) rfl)
          have y6 := cell_be hB (hd 6 (.int .i64 i.imm) rfl)
          have HBl := Lib.hid hB
          obtain ⟨io, id, ii, im, ia, ic, iz⟩ := i
          clear hc hd hcs hcs2 hi hi' HX7 HX8 hB
          dsimp only at x0 x1 x2 x3 x4 x5 x6 y0 y1 y2 y3 y4 y5 y6
          simp only [Nat.add_zero] at x0 y0
          go_wp2_with fail
          go_region_held3 (fun w' => w'.cell? ⟨b, off + j * 7, none⟩ = some (.int .i64 io) ∧ w'.cell? ⟨b, off + j * 7 + 1, none⟩ = some (.int .i64 id) ∧ w'.cell? ⟨b, off + j * 7 + 2, none⟩ = some (.int .i64 ii) ∧ w'.cell? ⟨b, off + j * 7 + 3, none⟩ = some (.int .i64 im) ∧ w'.cell? ⟨b, off + j * 7 + 4, none⟩ = some (.int .i64 ia) ∧ w'.cell? ⟨b, off + j * 7 + 5, none⟩ = some (.int .i64 ic) ∧ w'.cell? ⟨b, off + j * 7 + 6, none⟩ = some (.int .i64 iz) ∧ w'.cell? ⟨b2, off2 + j * 7, none⟩ = some (.int .i64 io) ∧ w'.cell? ⟨b2, off2 + j * 7 + 1, none⟩ = some (.int .i64 id) ∧ w'.cell? ⟨b2, off2 + j * 7 + 2, none⟩ = some (.int .i64 ii) ∧ w'.cell? ⟨b2, off2 + j * 7 + 3, none⟩ = some (.int .i64 im) ∧ w'.cell? ⟨b2, off2 + j * 7 + 4, none⟩ = some (.int .i64 ia) ∧ w'.cell? ⟨b2, off2 + j * 7 + 5, none⟩ = some (.int .i64 ic) ∧ w'.cell? ⟨b2, off2 + j * 7 + 6, none⟩ = some (.int .i64 iz)) (first | (exact ⟨x0, x1, x2, x3, x4, x5, x6, y0, y1, y2, y3, y4, y5, y6⟩) | go_keep) (fail)
          all_goals
            go_wp2_with fail
            go_roundw
            case rel => exact ⟨j + 1, by rw [show ((j + 1 : Nat) : Int) = j + 1 by omega], by omega, HBl.out.drew⟩
            case measure => simp only [intOf]; omega
        · have hjl : j = r.length := by omega
          subst hjl
          have HB9 := Lib.hid (HB7.out.trans (hB.mono HB7.out.size))
          have HBw := Lib.hid (HWB.out.trans (HB9.out.mono HWB.out.size))
          have kt := box_bel HK2.out.2 (HP2.out.below.trans (HB9.out.mono HP2.out.below.size))
          have ct := kt.cell
          have ft := kt.frozen
          have HKt := Lib.hid kt
          clear HX7 HX8 hB kt
          go_wp2_with fail
          have d2 : (wr.setCell ⟨w.heap.size + 1, 0, none⟩ (.bool true)).heap[D2]? = some (.deferred (some [])) := (KeepsOthers.setCell _ _ _).same _ _ (row_kept HB9.out HD2.out) rfl
          have d1 : (wr.setCell ⟨w.heap.size + 1, 0, none⟩ (.bool true)).heap[D]? = some (.deferred (some [])) := (KeepsOthers.setCell _ _ _).same _ _ (row_kept HB9.out HD1.out) rfl
          have d1' : ((wr.setCell ⟨w.heap.size + 1, 0, none⟩ (.bool true)).putObj D2 (.deferred none)).heap[D]? = some (.deferred (some [])) := (World.putObj_heap_other (by omega)).trans d1
          have hbX : Below w.heap.size w (wr.setCell ⟨w.heap.size + 1, 0, none⟩ (.bool true)) := HBw.out.setCell (by simp) _
          have hb1 : Below w.heap.size w ((wr.setCell ⟨w.heap.size + 1, 0, none⟩ (.bool true)).putObj D2 (.deferred none)) := hbX.trans (belowK_b (w := w) (Nat.le_refl _) _ D2 _ _ (by have := HB2.out.size; omega) d2 rfl rfl)
          have hb2 : Below w.heap.size w (((wr.setCell ⟨w.heap.size + 1, 0, none⟩ (.bool true)).putObj D2 (.deferred none)).putObj D (.deferred none)) := hb1.trans (belowK_b (w := w) (Nat.le_refl _) _ D _ _ (by have := HB2.out.size; omega) d1' rfl rfl)
          refine ⟨by simp, .inl ⟨_, _, rfl, run_takeDeferred d2, by simp, .inl ⟨_, _, rfl, run_takeDeferred d1', ?_⟩⟩⟩
          exact ⟨_, results_c1 (fn := Tryz.f3) rfl rfl (load_b (boxed_put d1' (boxed_put d2 (HKt.out.set _))).cell (by kernel_rfl)), rfl, hb2⟩
  case done =>
    rintro D xs W hD hxs P hK
    have hDl : D < W.heap.size := (Array.getElem?_eq_some_iff.1 hK).1
    have HP := Lib.hid P
    have HKD := Lib.hid hK
    have cN := P.bN.cell
    have fN := P.bN.frozen
    clear P hK P00
    go_wp2_with fail
    obtain ⟨W1, hW1⟩ : ∃ W1, W.setCell ⟨w2.heap.size + 2, 0, none⟩ (.int .i64 0) = W1 := ⟨_, rfl⟩
    have P1 : TpS w2 (.slice A2 ls.length c2) s 0 W1 := by rw [← hW1]; exact HP.out.setN 0
    have k1 : W1.heap[D]? = some (.deferred (some [])) := by rw [← hW1]; exact (KeepsOthers.setCell _ _ _).same _ _ HKD.out rfl
    have hz1 : W1.heap.size = W.heap.size := by rw [← hW1]; simp [World.setCell]
    have hPs := P1.size
    rw [hW1]
    clear hW1 cN fN HP HKD
    refine (wpIn_wide (n := 6)).1 ?_
    refine rangeFunc_x (M := 5) rfl (by omega) (gf := 15) (lb := #[.pointer (some ⟨w2.heap.size + 1, 0, none⟩)]) rfl trivial (enters_of Tryz.func15 (by kernel_rfl) rfl)
      (lines_iter s (by have := HS.out; omega) _ (by omega) (w2.heap.size + 1) W1 P1.bS) (Below.refl _ _) (fun _ => rfl)
      (fun pre W => TpS w2 (.slice A2 ls.length c2) s (pre.length : Nat) W ∧ W.heap[D]? = some (.deferred (some [])) ∧ ovals pre <+: ls)
      (fun c pre W => (¬ ovals pre <+: ls) ∧ c = .ret)
      ?hI3 ?hIx3 ?hIb3 ?hIxb3 ?hIG3 ⟨P1, k1, List.nil_prefix⟩ (fun x b W => True) (fun _ _ _ _ _ _ _ _ _ => trivial) (fun x b a => (((a.setIfInBounds 42 (.int .i64 x.1.1)).setIfInBounds 43 (.string ⟨x.1.2.toArray⟩)).setIfInBounds 10 (.int .i64 x.1.1)).setIfInBounds 11 (.string ⟨x.1.2.toArray⟩)) ?assign3 ?body3 ?done3 ?stop3
    case hI3 =>
      rintro pre A C row ⟨P, k, hp⟩ hg hr
      exact ⟨P.turn hg (fun r e => by have := (hr r e).1; omega), rec_turn hg (fun r e => by have := (hr r e).1; omega) k, hp⟩
    case hIx3 =>
      rintro c pre A C row h hg hr
      exact h
    case hIb3 =>
      rintro pre A b u h1 h2 ⟨P, k, hp⟩
      exact ⟨P.own b u (by omega), (heap_setCell_ne A b 0 D u (by omega)).trans k, hp⟩
    case hIxb3 =>
      rintro c pre A b u h1 h2 h
      exact h
    case hIG3 =>
      rintro pre A ⟨P, -, -⟩
      exact (HG.out.below HB2.out).below P.below
    case assign3 =>
      rintro q pre x W K hI hK
      dsimp only [encL]
      gi_wp2
      exact hK 0 W (KeepsFrom.refl _ _) ((KpX.bel (Below.refl _ _))) hI trivial
    case body3 =>
      rintro q pre x b W2 hq ⟨r, hr⟩ ⟨P0, kD, hpre⟩ - hlen hsz
      have hN := linesB_len s
      have hL := HS.out
      have c6 := (box_bel HK2.out.2 P0.below).cell
      have f6 := (box_bel HK2.out.2 P0.below).frozen
      have cC := P0.bC.cell
      have cN := P0.bN.cell
      have fN := P0.bN.frozen
      obtain ⟨⟨k, t⟩, hkt⟩ : ∃ p : Nat × List UInt8, x.1 = p := ⟨_, rfl⟩
      have hos : ovals (pre ++ [x]) = ovals pre ++ [(k, t)] := by rw [ovals_snoc, hkt]
      have hol : (ovals pre).length = pre.length := by simp [ovals]
      have hps := pre_snoc (x := (k, t)) hpre
      rw [hol, ← hos] at hps
      have HPS := Lib.hid hps
      have HP0 := Lib.hid P0
      have HKd := Lib.hid kD
      obtain ⟨n, hn⟩ : ∃ n, pre.length = n := ⟨_, rfl⟩
      have hn1 : n ≤ 8193 := by omega
      have hln : (pre ++ [x]).length = n + 1 := by simp [hn]
      have HLN := Lib.hid hln
      rw [hn] at cN
      have HN := Lib.hid hn
      clear P0 kD hps hos hol hpre hln hr hN
      simp only [List.setIfInBounds_toArray, List.set_cons_succ, List.set_cons_zero, hkt]
      by_cases hge : n < ls.length
      · obtain ⟨⟨k', t'⟩, hy⟩ : ∃ y, ls[n]'hge = y := ⟨_, rfl⟩
        have hy' : ls[n]? = some (k', t') := by rw [List.getElem?_eq_getElem hge, hy]
        obtain ⟨A3, c3, e3, hx3⟩ := (show Lns w2 (.slice A2 ls.length c2) ls from ⟨A2, c2, rfl, HX2.out⟩).below HP0.out.below
        cases e3
        obtain ⟨bb, off, rfl, hcs⟩ := hx3 (fun e => by rw [e] at hge; simp at hge)
        obtain ⟨x0, x1⟩ := hcs n (k', t') hy'
        dsimp only at x0 x1
        have HY := Lib.hid hy'
        clear hx3 hcs hy hy'
        by_cases hk : k' = k
        · subst hk
          by_cases ht : t' = t
          · subst ht
            gi_wp2_with fail
            refine ⟨(KeepsOthers.setCell _ _ _).from _, KpX.set _ _ (by omega), ?_, ?_, ?_⟩
            · have := HP0.out.setN ((n : Int) + 1)
              rw [HLN.out, show ((n + 1 : Nat) : Int) = (n : Int) + 1 by omega]
              exact this
            · exact (KeepsOthers.setCell _ _ _).same _ _ HKd.out rfl
            · exact HPS.out.2 (by rw [HN.out]; exact HY.out)
          · have hne : ¬ (⟨t'.toArray⟩ : ByteArray) = ⟨t.toArray⟩ := fun e => ht (by simpa using congrArg (fun z => z.data.toList) e)
            have hbn : ((⟨t'.toArray⟩ : ByteArray).toList != (⟨t.toArray⟩ : ByteArray).toList) = true := by rw [be_list, be_list, bne_iff_ne]; exact ht
            have hbe : ((⟨t'.toArray⟩ : ByteArray).toList == (⟨t.toArray⟩ : ByteArray).toList) = false := by rw [be_list, be_list, beq_eq_false_iff_ne]; exact ht
            have hb3 : (t' == t) = false := beq_eq_false_iff_ne.2 ht
            gi_wp2_with fail
            refine ⟨(KeepsOthers.setCell _ _ _).from _, ?_, rfl⟩
            intro hp
            have := HPS.out.1 hp
            rw [HN.out, HY.out] at this
            simp at this
            exact ht this
            all_goals (exfalso; rename_i hq; simp [hb3] at hq)
        · have hki : ¬ ((k' : Int) = k) := by omega
          have hkb : ((k' : Int) != k) = true := by rw [bne_iff_ne]; exact hki
          gi_wp2_with fail
          refine ⟨(KeepsOthers.setCell _ _ _).from _, ?_, rfl⟩
          intro hp
          have := HPS.out.1 hp
          rw [HN.out, HY.out] at this
          simp at this
          omega
      · have hge2 : (ls.length : Int) ≤ n := by omega
        gi_wp2_with fail
        refine ⟨(KeepsOthers.setCell _ _ _).from _, ?_, rfl⟩
        intro hp
        have := HPS.out.1 hp
        rw [HN.out, List.getElem?_eq_none (by omega)] at this
        cases this
    case stop3 =>
      rintro D2 c pre W2 hD2 hp2 ⟨hno, rfl⟩ hK2
      exact absurd (HLs.out ▸ hp2) hno
    case done3 =>
      rintro D2 xs W2 hD2 hxs ⟨P2, kD, hpre⟩ kD2
      have hxl : xs.length = ls.length := by rw [← HLs.out, ← hxs]; simp [ovals]
      have cN2 := P2.bN.cell
      rw [hxl] at cN2
      have cC := P2.bC.cell
      obtain ⟨⟨r, k, e⟩, hps⟩ : ∃ q, progS s = q := ⟨_, rfl⟩
      have hrl : r.length ≤ 1000000 := by
        have h := progS_len s
        have h3 := HS.out
        rw [hps] at h
        dsimp only at h
        omega
      have HWB := Lib.hid (HB2.out.trans (P2.below.mono HB2.out.size))
      have HPr : Hid (∀ W, Below w.heap.size w W → Calls Tryz.prog 8 #[.slice A l.length c] W fun e w' => e = .returned (.string ⟨(textP l).toArray⟩) ∧ Below W.heap.size W w') := Lib.hid (fun W hW => Print_calls _ l W (HV.out.below hW) (by have := HL.out; omega) (HG.out.below hW))
      have HRp : Hid (∀ W, Below w.heap.size w W → Calls Tryz.prog 9 #[.slice A l.length c] W fun e w' => e = .returned (.string ⟨(textP l).toArray⟩) ∧ Below W.heap.size W w') := Lib.hid (fun W hW => RPrint_calls _ l W (HV.out.below hW) (by have := HL.out; omega) HCap.out)
      have HPg : Hid (∀ W, Below w.heap.size w W → Calls Tryz.prog 10 #[.string s] W fun e' w' => ∃ v', e' = .returned (.tuple #[v', .int .i64 k, .int .i64 e]) ∧ Inss w' v' r ∧ Below W.heap.size W w') := Lib.hid (fun W hW => by
        refine (Program_calls s W (by have := HS.out; omega) (HG.out.below hW)).mono ?_
        rintro e' w' ⟨v', h1, h2, h3⟩
        rw [hps] at h1 h2
        exact ⟨v', h1, inss_own h2, h3⟩)
      have HRg : Hid (∀ W, Calls Tryz.prog 11 #[.string s] W fun e' w' => ∃ v', e' = .returned (.tuple #[v', .int .i64 k, .int .i64 e]) ∧ Inss w' v' r ∧ Below W.heap.size W w') := Lib.hid (fun W => by
        refine (RProgram_calls s W (by have := HS.out; omega)).mono ?_
        rintro e' w' ⟨v', h1, h2, h3⟩
        rw [hps] at h1 h2
        exact ⟨v', h1, inss_own h2, h3⟩)
      have HP2 := Lib.hid P2
      have HD1 := Lib.hid kD
      have HD2 := Lib.hid kD2
      have hDD : D < D2 := by omega
      clear P2 kD kD2 hpre hxs P1 k1
      go_wp2_with (first | (go_at_call 8; refine (HPr.out _ HWB.out).mono ?_; rintro e' w4 ⟨rfl, hb4⟩; have HB4 := Lib.hid hb4; clear hb4) | (go_at_call 9; refine (HRp.out _ (HWB.out.trans (HB4.out.mono HWB.out.size))).mono ?_; rintro e' w5 ⟨rfl, hb5⟩; have HB5 := Lib.hid (HB4.out.trans (hb5.mono HB4.out.size)); clear hb5) | (go_at_call 10; refine (HPg.out _ (HWB.out.trans (HB5.out.mono HWB.out.size))).mono ?_; rintro e' w6 ⟨v6, rfl, hi6, hb6⟩; obtain ⟨A6, c6, rfl, hx6⟩ := hi6; have HX6 := Lib.hid (show Inss w6 (.slice A6 r.length c6) r from ⟨A6, c6, rfl, hx6⟩); have HB6 := Lib.hid (HB5.out.trans (hb6.mono HB5.out.size)); clear hb6 hx6) | (go_at_call 11; refine (HRg.out _).mono ?_; rintro e' w7 ⟨v7, rfl, hi7, hb7⟩; obtain ⟨A7, c7, rfl, hx7⟩ := hi7; have HX7 := Lib.hid hx7; have HY6 := Lib.hid (HX6.out.below hb7); have HB7 := Lib.hid (HB6.out.trans (hb7.mono HB6.out.size)); clear hb7 hx7) | fail)
      obtain ⟨A8, c8, e8, hx8⟩ := HY6.out
      cases e8
      have HX8 := Lib.hid hx8
      clear hx8 HPg HPr HRp HRg HY6 HX6
      go_loopw [18] (fun a wr => ∃ j : Nat, a = .int .i64 j ∧ j ≤ r.length ∧ Below w7.heap.size w7 wr) (fun a _ => r.length - (intOf a).toNat)
      case atStart => exact ⟨0, rfl, by omega, Below.refl _ _⟩
      case round =>
        obtain ⟨j, rfl, hj2, hB⟩ := hrel
        by_cases hlt : j < r.length
        · obtain ⟨i, hi⟩ : ∃ i, r[j]'hlt = i := ⟨_, rfl⟩
          have hi' : r[j]? = some i := by rw [List.getElem?_eq_getElem hlt, hi]
          obtain ⟨b, off, rfl, hcs⟩ := HX8.out (fun e => by rw [e] at hlt; simp at hlt)
          obtain ⟨b2, off2, rfl, hcs2⟩ := HX7.out (fun e => by rw [e] at hlt; simp at hlt)
          have hc := hcs j i hi'
          have hd := hcs2 j i hi'
          have x0 := cell_be hB (hc 0 (.int .i64 i.op) rfl)
          have x1 := cell_be hB (hc 1 (.int .i64 i.d) rfl)
          have x2 := cell_be hB (hc 2 (.int .i64 i.n) rfl)
          have x3 := cell_be hB (hc 3 (.int .i64 i.m) rfl)
          have x4 := cell_be hB (hc 4 (.int .i64 i.a) rfl)
          have x5 := cell_be hB (hc 5 (.int .i64 i.cond) rfl)
          have x6 := cell_be hB (hc 6 (.int .i64 i.imm) rfl)
          have y0 := cell_be hB (hd 0 (.int .i64 i.op) rfl)
          have y1 := cell_be hB (hd 1 (.int .i64 i.d) rfl)
          have y2 := cell_be hB (hd 2 (.int .i64 i.n) rfl)
          have y3 := cell_be hB (hd 3 (.int .i64 i.m) rfl)
          have y4 := cell_be hB (hd 4 (.int .i64 i.a) rfl)
          have y5 := cell_be hB (hd 5 (.int .i64 i.cond) rfl)
          have y6 := cell_be hB (hd 6 (.int .i64 i.imm) rfl)
          have HBl := Lib.hid hB
          obtain ⟨io, id, ii, im, ia, ic, iz⟩ := i
          clear hc hd hcs hcs2 hi hi' HX7 HX8 hB
          dsimp only at x0 x1 x2 x3 x4 x5 x6 y0 y1 y2 y3 y4 y5 y6
          simp only [Nat.add_zero] at x0 y0
          go_wp2_with fail
          go_region_held3 (fun w' => w'.cell? ⟨b, off + j * 7, none⟩ = some (.int .i64 io) ∧ w'.cell? ⟨b, off + j * 7 + 1, none⟩ = some (.int .i64 id) ∧ w'.cell? ⟨b, off + j * 7 + 2, none⟩ = some (.int .i64 ii) ∧ w'.cell? ⟨b, off + j * 7 + 3, none⟩ = some (.int .i64 im) ∧ w'.cell? ⟨b, off + j * 7 + 4, none⟩ = some (.int .i64 ia) ∧ w'.cell? ⟨b, off + j * 7 + 5, none⟩ = some (.int .i64 ic) ∧ w'.cell? ⟨b, off + j * 7 + 6, none⟩ = some (.int .i64 iz) ∧ w'.cell? ⟨b2, off2 + j * 7, none⟩ = some (.int .i64 io) ∧ w'.cell? ⟨b2, off2 + j * 7 + 1, none⟩ = some (.int .i64 id) ∧ w'.cell? ⟨b2, off2 + j * 7 + 2, none⟩ = some (.int .i64 ii) ∧ w'.cell? ⟨b2, off2 + j * 7 + 3, none⟩ = some (.int .i64 im) ∧ w'.cell? ⟨b2, off2 + j * 7 + 4, none⟩ = some (.int .i64 ia) ∧ w'.cell? ⟨b2, off2 + j * 7 + 5, none⟩ = some (.int .i64 ic) ∧ w'.cell? ⟨b2, off2 + j * 7 + 6, none⟩ = some (.int .i64 iz)) (first | (exact ⟨x0, x1, x2, x3, x4, x5, x6, y0, y1, y2, y3, y4, y5, y6⟩) | go_keep) (fail)
          all_goals
            go_wp2_with fail
            go_roundw
            case rel => exact ⟨j + 1, by rw [show ((j + 1 : Nat) : Int) = j + 1 by omega], by omega, HBl.out.drew⟩
            case measure => simp only [intOf]; omega
        · have hjl : j = r.length := by omega
          subst hjl
          have HB9 := Lib.hid (HB7.out.trans (hB.mono HB7.out.size))
          have HBw := Lib.hid (HWB.out.trans (HB9.out.mono HWB.out.size))
          have kt := box_bel HK2.out.2 (HP2.out.below.trans (HB9.out.mono HP2.out.below.size))
          have ct := kt.cell
          have ft := kt.frozen
          have HKt := Lib.hid kt
          clear HX7 HX8 hB kt
          go_wp2_with fail
          have d2 : (wr.setCell ⟨w.heap.size + 1, 0, none⟩ (.bool true)).heap[D2]? = some (.deferred (some [])) := (KeepsOthers.setCell _ _ _).same _ _ (row_kept HB9.out HD2.out) rfl
          have d1 : (wr.setCell ⟨w.heap.size + 1, 0, none⟩ (.bool true)).heap[D]? = some (.deferred (some [])) := (KeepsOthers.setCell _ _ _).same _ _ (row_kept HB9.out HD1.out) rfl
          have d1' : ((wr.setCell ⟨w.heap.size + 1, 0, none⟩ (.bool true)).putObj D2 (.deferred none)).heap[D]? = some (.deferred (some [])) := (World.putObj_heap_other (by omega)).trans d1
          have hbX : Below w.heap.size w (wr.setCell ⟨w.heap.size + 1, 0, none⟩ (.bool true)) := HBw.out.setCell (by simp) _
          have hb1 : Below w.heap.size w ((wr.setCell ⟨w.heap.size + 1, 0, none⟩ (.bool true)).putObj D2 (.deferred none)) := hbX.trans (belowK_b (w := w) (Nat.le_refl _) _ D2 _ _ (by have := HB2.out.size; omega) d2 rfl rfl)
          have hb2 : Below w.heap.size w (((wr.setCell ⟨w.heap.size + 1, 0, none⟩ (.bool true)).putObj D2 (.deferred none)).putObj D (.deferred none)) := hb1.trans (belowK_b (w := w) (Nat.le_refl _) _ D _ _ (by have := HB2.out.size; omega) d1' rfl rfl)
          refine ⟨by simp, .inl ⟨_, _, rfl, run_takeDeferred d2, by simp, .inl ⟨_, _, rfl, run_takeDeferred d1', ?_⟩⟩⟩
          exact ⟨_, results_c1 (fn := Tryz.f3) rfl rfl (load_b (boxed_put d1' (boxed_put d2 (HKt.out.set _))).cell (by kernel_rfl)), rfl, hb2⟩
end Go.Proofs.YtkphijabhoppnaaGreatDoor
