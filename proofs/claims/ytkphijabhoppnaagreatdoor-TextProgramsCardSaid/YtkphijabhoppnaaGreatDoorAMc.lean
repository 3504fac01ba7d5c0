/- The lines of a text that have something (brazier/text.Lines), as an iterator. -/
import Derived.Test.YtkphijabhoppnaaGreatDoorAMb
import Derived.Scope
namespace Go.Proofs.YtkphijabhoppnaaGreatDoor
open Go.RowKit Go.Shelf Go.Proofs.YtkphijabhoppnaaGreatDoorW.PrintWords
set_option linter.unusedSimpArgs false
set_option linter.unusedVariables false
attribute [local go_sem] Oper.semAt_some
def lineT (x : List UInt8) : List UInt8 := Lib.trimS (Lib.cut x [59]).1 [32, 9]
def outsL : Nat → List ByteArray → List (Nat × List UInt8)
  | _, [] => []
  | n, x :: r => (if lineT x.data.toList = [] then [] else [(n + 1, lineT x.data.toList)]) ++ outsL (n + 1) r
theorem outsL_snoc (x : ByteArray) : ∀ (pre : List ByteArray) (n : Nat), outsL n (pre ++ [x]) = outsL n pre ++ (if lineT x.data.toList = [] then [] else [(n + pre.length + 1, lineT x.data.toList)]) := by
  intro pre
  induction pre with
  | nil => intro n; simp [outsL]
  | cons y pre ih =>
    intro n
    rw [List.cons_append, outsL, ih, outsL, List.append_assoc, List.length_cons, show n + 1 + pre.length = n + (pre.length + 1) by omega]
theorem trimS_len (l cs : List UInt8) : (Lib.trimS l cs).length ≤ l.length := by
  unfold Lib.trimS Lib.trimLeftS Lib.trimRightS
  have h1 := (List.dropWhile_sublist (fun x => cs.contains x) (l := l.reverse)).length_le
  have h2 := (List.dropWhile_sublist (fun x => cs.contains x) (l := (l.reverse.dropWhile (fun x => cs.contains x)).reverse)).length_le
  rw [List.length_reverse] at h1 h2
  omega
theorem lineT_len (x : List UInt8) : (lineT x).length ≤ x.length := by
  have h1 := trimS_len (Lib.cut x [59]).1 [32, 9]
  have h2 : (Lib.cut x [59]).1.length ≤ x.length := by
    unfold Lib.cut
    split
    · rw [List.length_take]; exact Nat.min_le_right _ _
    · exact Nat.le_refl _
  unfold lineT
  omega
abbrev LOut (s : ByteArray) := { x : Nat × List UInt8 // x.2.length ≤ s.size ∧ x.1 ≤ s.size + 1 }
def encL {s : ByteArray} (x : LOut s) : Array Value := #[.int .i64 x.1.1, .string ⟨x.1.2.toArray⟩]
def ovals {s : ByteArray} (l : List (LOut s)) : List (Nat × List UInt8) := l.map (·.1)
theorem ovals_snoc {s : ByteArray} (l : List (LOut s)) (x : LOut s) : ovals (l ++ [x]) = ovals l ++ [x.1] := by simp [ovals]
theorem outsL_len : ∀ (l : List ByteArray) (n : Nat), (outsL n l).length ≤ l.length := by
  intro l
  induction l with
  | nil => intro n; simp [outsL]
  | cons x r ih =>
    intro n
    have := ih (n + 1)
    rw [outsL]
    split <;> simp <;> omega
theorem Lines_calls (s : ByteArray) (w : World) : Calls Tryz.prog 7 #[.string s] w fun e w' => e = .returned (.func (.func 15) #[] #[.pointer (some ⟨w.heap.size, 0, none⟩)]) ∧ w' = w.alloc (.cells #[.string s] 9) := by
  go_enter Tryz.func7, Tryz.ntmps7
  go_wp2_with fail
  go_ret
  exact ⟨rfl, rfl⟩
theorem cut59_calls (s : ByteArray) (w : World) (hG : GlobT w) (hs : s.size ≤ 1000000) :
    Calls Tryz.prog 17 #[.string s, .string ⟨#[59]⟩] w fun e w' => ∃ y z, e = .returned (.tuple #[.string ⟨(Lib.cut s.data.toList [59]).1.toArray⟩, y, z]) ∧ ∃ n, w' = w.drewN n := by
  obtain ⟨m, hm⟩ := hG.mx
  refine (Any.strings_Cut (P := Tryz.prog) (ρ := Tryz.laysM145_ren) { Tryz.laysM145 with } s ⟨#[59]⟩ m w (by omega) hm).mono ?_
  rintro e w' ⟨rfl, n, rfl⟩
  exact ⟨_, _, rfl, n, rfl⟩
theorem trim_calls (s : ByteArray) (w : World) (hs : s.size ≤ 1000000) :
    Calls Tryz.prog 18 #[.string s, .string ⟨#[32, 9]⟩] w fun e w' => e = .returned (.string ⟨(Lib.trimS s.data.toList [32, 9]).toArray⟩) ∧ Below w.heap.size w w' :=
  Any.strings_Trim_laid (P := Tryz.prog) (ρ := Tryz.lays160_ren) Tryz.lays160 (by kernel_rfl) s ⟨#[32, 9]⟩ w (by omega) (by decide) (by
    intro j b hb
    have : b ∈ ([32, 9] : List UInt8) := List.mem_of_getElem? hb
    simp only [List.mem_cons, List.not_mem_nil, or_false] at this
    rcases this with rfl | rfl <;> decide)
theorem grown_bel {A B : World} (h : Below A.heap.size A B) : A.grownBy B none := ⟨h.os, h.tape, h.output, h.size, fun k hk _ => h.block k hk⟩
theorem BearsX.later {β : Type} {B K : Nat} {J : β → World → Prop} (h : BearsX B K J) {s : β} {A A' : World} (hs : J s A) (hb : Below A.heap.size A A') : J s A' :=
  h.turn s A A' none hs (grown_bel hb) (fun r e => by cases e)
theorem outsL_app (a : List ByteArray) : ∀ (b : List ByteArray) (n : Nat), outsL n (a ++ b) = outsL n a ++ outsL (n + a.length) b := by
  induction a with
  | nil => intro b n; simp [outsL]
  | cons x a ih => intro b n; rw [List.cons_append, outsL, ih, outsL, List.append_assoc, List.length_cons, show n + 1 + a.length = n + (a.length + 1) by omega]
theorem outsL_pre {a l : List ByteArray} (h : a <+: l) (n : Nat) : outsL n a <+: outsL n l := by
  obtain ⟨b, rfl⟩ := h
  rw [outsL_app]
  exact List.prefix_append _ _
theorem heap_al (w : World) (o : Obj) : (w.alloc o).heap = w.heap.push o := rfl
theorem KpS.bel {Bs Bp Bv : Nat} {A B : World} (h : Below A.heap.size A B) : KpS Bs Bp Bv A B :=
  ⟨fun v x => box_bel x h, fun v x => box_bel x h, fun v x => box_bel x h, h.size⟩
theorem KpS.set1 {Bs Bp Bv : Nat} (A : World) (B : Nat) (v : Value) (h1 : Bs ≠ B) (h2 : Bp ≠ B) (h3 : Bv ≠ B) : KpS Bs Bp Bv A (A.setCell ⟨B, 0, none⟩ v) :=
  ⟨fun u x => x.other h1 _, fun u x => x.other h2 _, fun u x => x.other h3 _, by simp [World.setCell]⟩
theorem KpS.put1 {Bs Bp Bv : Nat} (W : World) (l : Nat) (o o' : Obj) (h : W.heap[l]? = some o) (hc : o.isCells = false) : KpS Bs Bp Bv W (W.putObj l o') := by
  have key : ∀ B t v, Boxed W B t v → Boxed (W.putObj l o') B t v := by
    intro B t v hb
    refine (World.putObj_heap_other (fun e => ?_)).trans hb
    subst e
    unfold Boxed at hb
    rw [h] at hb
    cases hb
    cases hc
  exact ⟨fun v => key _ _ v, fun v => key _ _ v, fun v => key _ _ v, by simp⟩
theorem KpS.ofX {B : Nat} {A C : World} (h : KpX B 5 A C) : KpS (B + 2) (B + 3) (B + 4) A C :=
  ⟨fun v x => h.2 _ _ (by omega) (by omega) x, fun v x => h.2 _ _ (by omega) (by omega) x, fun v x => h.2 _ _ (by omega) (by omega) x, h.1.size⟩
theorem bel_drewN (w : World) (n : Nat) : Below w.heap.size w (w.drewN n) := ⟨rfl, rfl, rfl, Nat.le_refl _, fun _ _ => rfl⟩
set_option maxHeartbeats 4000000 in
set_option maxRecDepth 100000 in
theorem lines_iter (s : ByteArray) (hs : s.size ≤ 100000) (n : Nat) (hn : 3 ≤ n) (Bs : Nat) (w0 : World) (hb : Boxed w0 Bs 9 (.string s)) :
    IterX Fence.wide n Tryz.prog 15 #[.pointer (some ⟨Bs, 0, none⟩)] (encL (s := s)) (fun ys => ovals ys = outsL 0 (linesB s)) (fun pre => ovals pre <+: outsL 0 (linesB s)) (linesB s).length 5 GlobT w0 := by
  intro l J Jx W hW hJ hJx hJG hY h0
  have hbW : Boxed W Bs 9 (.string s) := box_bel hb hW
  have cW := hbW.cell
  have hlt := hbW.lt
  have HS := Lib.hid hs
  have hn1 : 1 ≤ n := by omega
  have hn2 : 1 ≤ n - 1 - 1 := by omega
  refine callsIn_of_wp_marks Tryz.func15 rfl trivial ?_ rfl
  simp only [Tryz.ntmps15, List.size_toArray, List.length_cons, List.length_nil, Nat.reduceAdd, Nat.reduceSub, Array.replicate_succ, Array.replicate_zero, List.push_toArray, List.append_toArray, List.nil_append, List.cons_append]
  gi_wp2_with fail
  refine wpIn_wide.2 (wp_scope_straight ((wpIn_wide (n := n)).1 ?_))
  gi_wp2_with fail
  refine wpIn_label ?_
  gi_wp2_with (first | (refine ⟨trivial, ?_⟩; gi_at_call 16; refine (callsIn_wide.2 (SplitSeq_calls _ _)).mono ?_; rintro e w' ⟨rfl, rfl⟩) | fail)
  simp only [Nat.add_assoc, Nat.reduceAdd]
  obtain ⟨B, hB⟩ : ∃ B, W.heap.size = B := ⟨_, rfl⟩
  obtain ⟨W0, hW0⟩ : ∃ W0, (((((W.alloc (Obj.cells #[Value.func (Fn.yield l) #[] #[]] 46)).alloc (Obj.cells #[Value.int IntKind.i64 0] 3)).alloc (Obj.cells #[Value.string s] 9)).alloc (Obj.cells #[Value.string { data := #[10] }] 9)).alloc (Obj.cells #[Value.int IntKind.i64 0] 3)) = W0 := ⟨_, rfl⟩
  have hz : W0.heap.size = B + 5 := by rw [← hW0, ← hB]; simp
  have hB0 : Below W.heap.size W W0 := by
    rw [← hW0]
    exact (((((Below.refl _ W).alloc (Nat.le_refl _) _).alloc (by simp) _).alloc (by simp; omega) _).alloc (by simp; omega) _).alloc (by simp; omega) _
  have zz : (Boxed W0 B 46 (.func (.yield l) #[] #[]) ∧ Boxed W0 (B + 1) 3 (.int .i64 0)) ∧ Boxed W0 (B + 2) 9 (.string s) ∧ Boxed W0 (B + 3) 9 (.string ⟨#[10]⟩) ∧ Boxed W0 (B + 4) 3 (.int .i64 0) := by
    rw [← hW0, ← hB]
    unfold Boxed
    simp [heap_al, Array.getElem_push, Nat.add_assoc]
  obtain ⟨⟨z0, z1⟩, z2, z3, z4⟩ := zz
  rw [hW0, hB]
  rw [hB] at hJ hJx hY hlt
  clear hW0
  have h0' : J [] W0 := hJ.later h0 hB0
  clear h0 hB0 cW hbW
  refine rangeFunc_w rfl (by omega) (gf := 62) (lb := #[.pointer (some ⟨B + 3, 0, none⟩), .pointer (some ⟨B + 2, 0, none⟩), .pointer (some ⟨B + 4, 0, none⟩)]) rfl trivial (enters_of Tryz.func62 (by kernel_rfl) rfl)
    (split_iter s (by have := HS.out; omega) _ (by omega) (B + 2) (B + 3) (B + 4) (by omega) (by omega) W0 z2 z3 z4) (by omega) KpS.trans (fun W l o o' h1 h2 h3 h4 => KpS.put1 W l o o' h2 h3) (Below.refl _ _) (fun _ => rfl)
    (fun pre V => ∃ ys : List (LOut s), (ovals ys = outsL 0 (lvals pre) ∧ J ys V) ∧ ((Boxed V B 46 (.func (.yield l) #[] #[]) ∧ Boxed V (B + 1) 3 (.int .i64 (pre.length : Nat))) ∧ B + 5 ≤ V.heap.size))
    (fun c pre V => c = .exit 0 ∧ ∃ ys : List (LOut s), ovals ys = outsL 0 (lvals pre) ∧ Jx ys V)
    ?hI ?hIx ?hIb ?hIxb ⟨[], ⟨rfl, h0'⟩, ⟨z0, z1⟩, by omega⟩ (fun x b W => True) (fun _ _ _ _ _ _ _ _ _ => trivial) (fun x b a => (a.setIfInBounds 7 (.string x.1)).setIfInBounds 4 (.string x.1)) ?assign ?body ?done ?stop
  case hI =>
    rintro pre A C row ⟨ys, ⟨e, hj⟩, ⟨bY, bN⟩, hsz⟩ hg hr
    have hne : ∀ b, b < B + 5 → some b ≠ row := fun b hb e => by have := (hr b e.symm).1; omega
    exact ⟨ys, ⟨e, hJ.turn _ _ _ row hj hg (fun r e => ⟨by have := (hr r e).1; omega, (hr r e).2⟩)⟩, ⟨bY.kept hg (hne _ (by omega)), bN.kept hg (hne _ (by omega))⟩, Nat.le_trans hsz hg.size⟩
  case hIx =>
    rintro c pre A C row ⟨hc, ys, e, hj⟩ hg hr
    exact ⟨hc, ys, e, hJx.turn _ _ _ row hj hg (fun r e => ⟨by have := (hr r e).1; omega, (hr r e).2⟩)⟩
  case hIb =>
    rintro pre A v ⟨ys, ⟨e, hj⟩, ⟨bY, bN⟩, hsz⟩
    exact ⟨ys, ⟨e, hJ.own _ _ (B + 2) v (by omega) (by omega) hj⟩, ⟨bY.other (by omega) _, bN.other (by omega) _⟩, by simpa [World.setCell] using hsz⟩
  case hIxb =>
    rintro c pre A v ⟨hc, ys, e, hj⟩
    exact ⟨hc, ys, e, hJx.own _ _ (B + 2) v (by omega) (by omega) hj⟩
  case assign =>
    rintro q pre x V K hI hK
    dsimp only
    gi_wp2
    exact hK 0 V (KeepsFrom.refl _ _) (KpS.bel (Below.refl _ _)) hI trivial
  case body =>
    rintro q pre x b V hq ⟨r, hr⟩ ⟨ys, ⟨hys, hj⟩, ⟨bY, bN⟩, hsz⟩ - hlen
    have hN := linesB_len s
    have hL := HS.out
    have hxs := x.2
    have hn' : (pre.length : Int) ≤ 200000 := by omega
    have cN := bN.cell
    have fN := bN.frozen
    have hj1 := hJ.own _ _ (B + 1) (.int .i64 ((pre.length : Int) + 1)) (by omega) (by omega) hj
    have hg1 := hJG _ _ hj1
    have bY1 := bY.other (B' := B + 1) (by omega) (.int .i64 ((pre.length : Int) + 1))
    have bN1 := bN.set (.int .i64 ((pre.length : Int) + 1))
    have hsz1 : B + 5 ≤ (V.setCell ⟨B + 1, 0, none⟩ (.int .i64 ((pre.length : Int) + 1))).heap.size := by simpa [World.setCell] using hsz
    have hk1 : KeepsOthers V (V.setCell ⟨B + 1, 0, none⟩ (.int .i64 ((pre.length : Int) + 1))) := KeepsOthers.setCell _ _ _
    have hp1 : KpS (B + 2) (B + 3) (B + 4) V (V.setCell ⟨B + 1, 0, none⟩ (.int .i64 ((pre.length : Int) + 1))) := KpS.set1 _ _ _ (by omega) (by omega) (by omega)
    obtain ⟨cu, hcu⟩ : ∃ cu : ByteArray, (⟨(Lib.cut x.1.data.toList [59]).1.toArray⟩ : ByteArray) = cu := ⟨_, rfl⟩
    have hcz : cu.size ≤ x.1.size := by
      rw [← hcu]
      show (Lib.cut x.1.data.toList [59]).1.toArray.size ≤ x.1.data.size
      rw [List.size_toArray, ← Array.length_toList]
      unfold Lib.cut
      split
      · rw [List.length_take]; exact Nat.min_le_right _ _
      · exact Nat.le_refl _
    obtain ⟨tx, htx⟩ : ∃ tx : ByteArray, (⟨(lineT x.1.data.toList).toArray⟩ : ByteArray) = tx := ⟨_, rfl⟩
    have HCU : Hid (∀ W, GlobT W → Calls Tryz.prog 17 #[.string x.1, .string ⟨#[59]⟩] W fun e w' => ∃ y z, e = .returned (.tuple #[.string cu, y, z]) ∧ ∃ n, w' = W.drewN n) := Lib.hid (fun W hW => hcu ▸ cut59_calls x.1 W hW (by omega))
    have HTR : Hid (∀ W, Calls Tryz.prog 18 #[.string cu, .string ⟨#[32, 9]⟩] W fun e w' => e = .returned (.string tx) ∧ Below W.heap.size W w') := Lib.hid (fun W => by
      have := trim_calls cu W (by omega)
      rw [← hcu] at this
      rw [← htx, ← hcu]
      exact this)
    have hlsn : lvals (pre ++ [x]) = lvals pre ++ [x.1] := lvals_snoc _ _
    have hpl : (lvals pre).length = pre.length := lvals_len _
    have hos := outsL_snoc x.1 (lvals pre) 0
    rw [← hlsn, hpl] at hos
    have HJ1 := Lib.hid hj1
    have HB1 := Lib.hid (And.intro bY1 (And.intro bN1 hsz1))
    have HK1 := Lib.hid (And.intro hk1 hp1)
    have HOS := Lib.hid hos
    have HYS := Lib.hid hys
    have HQ := Lib.hid hr
    have HCH := Lib.hid hcu
    clear hj hj1 bY bN hsz bY1 bN1 hsz1 hk1 hp1 hos hys hr hlsn hpl hcu
    simp only [List.setIfInBounds_toArray, List.set_cons_succ, List.set_cons_zero]
    by_cases ht : lineT x.1.data.toList = []
    · have te : tx = ⟨#[]⟩ := by rw [← htx, ht]
      subst te
      clear htx
      gi_wp2_with (first | (refine ⟨trivial, ?_⟩; gi_at_call 17; refine (CallsIn.inRound q (callsIn_wide.2 (HCU.out _ hg1))).mono ?_; rintro e V2 ⟨y, z, rfl, n2, rfl⟩) | (refine ⟨trivial, ?_⟩; gi_at_call 18; refine (CallsIn.inRound q (callsIn_wide.2 (HTR.out _))).mono ?_; rintro e V3 ⟨rfl, hv3⟩) | fail)
      have hb3 := (bel_drewN (V.setCell ⟨B + 1, 0, none⟩ (.int .i64 ((pre.length : Int) + 1))) n2).trans hv3
      obtain ⟨bY1, bN1, hsz1⟩ := HB1.out
      refine ⟨(HK1.out.1.trans (others_bel hb3)).from _, HK1.out.2.trans (KpS.bel hb3), ys, ⟨?_, hJ.later HJ1.out hb3⟩, ⟨box_bel bY1 hb3, ?_⟩, Nat.le_trans hsz1 hb3.size⟩
      · rw [HYS.out, HOS.out, if_pos ht, List.append_nil]
      · rw [List.length_append]; exact box_bel bN1 hb3
    · have te1 : ¬ tx.toList = [] := by rw [be_list, ← htx]; simpa using ht
      have te2 : tx.toList.isEmpty = false := by cases h : tx.toList with
        | nil => exact absurd h te1
        | cons => rfl
      have te3 : (tx.toList == ([] : List UInt8)) = false := by rw [beq_eq_false_iff_ne]; exact te1
      have hel : (lineT x.1.data.toList).length ≤ s.size ∧ pre.length + 1 ≤ s.size + 1 := by
        have h1 := lineT_len x.1.data.toList
        have h2 : x.1.data.toList.length = x.1.size := by rw [Array.length_toList]; rfl
        omega
      have hyl : ys.length < (linesB s).length := by
        have h1 := outsL_len (lvals pre) 0
        have h2 := congrArg List.length HYS.out
        rw [lvals_len] at h1
        unfold ovals at h2
        rw [List.length_map] at h2
        omega
      have ec : (((pre.length + 1 : Nat)) : Int) = (pre.length : Int) + 1 := by omega
      gi_wp2_with (first | (refine ⟨trivial, ?_⟩; gi_at_call 17; refine (CallsIn.inRound q (callsIn_wide.2 (HCU.out _ hg1))).mono ?_; rintro e V2 ⟨y, z, rfl, n2, rfl⟩) | (refine ⟨trivial, ?_⟩; gi_at_call 18; refine (CallsIn.inRound q (callsIn_wide.2 (HTR.out _))).mono ?_; rintro e V3 ⟨rfl, hv3⟩; have hb3 := (bel_drewN (V.setCell ⟨B + 1, 0, none⟩ (.int .i64 ((pre.length : Int) + 1))) n2).trans hv3; have hj3 := hJ.later HJ1.out hb3; have bY3 := box_bel HB1.out.1 hb3; have cY3 := bY3.cell; have bN3 := box_bel HB1.out.2.1 hb3; have cN3 := bN3.cell; have hs3 := Nat.le_trans HB1.out.2.2 hb3.size; obtain ⟨fn, tmps, assign, body, hy, hR⟩ := hY ys ⟨(pre.length + 1, lineT x.1.data.toList), hel⟩ V3 hj3 hyl hs3; dsimp only [encL] at hy; rw [ec, htx] at hy; have HB3 := Lib.hid hb3; have HY3 := Lib.hid (And.intro bY3 (And.intro bN3 hs3)); clear hb3 bY3 bN3 hs3 hv3) | fail)
      refine (RoundIn.anyX rfl q hR).mono ?_
      rintro e W3 (⟨rfl, hj4, hk4⟩ | ⟨rfl, hj4, hk4⟩)
      · have HK4 := Lib.hid hk4
        clear hk4
        gi_wp2_with fail
        obtain ⟨bY3, bN3, hs3⟩ := HY3.out
        refine ⟨((HK1.out.1.trans (others_bel HB3.out)).from _).trans (HK4.out.1.up (by omega)), (HK1.out.2.trans (KpS.bel HB3.out)).trans (KpS.ofX HK4.out), ys ++ [⟨(pre.length + 1, lineT x.1.data.toList), hel⟩], ⟨?_, hj4⟩, ⟨HK4.out.2 _ _ (by omega) (by omega) bY3, ?_⟩, Nat.le_trans hs3 HK4.out.1.size⟩
        · rw [ovals_snoc, HYS.out, HOS.out, if_neg ht, Nat.zero_add]
        · rw [List.length_append]; exact HK4.out.2 _ _ (by omega) (by omega) bN3
      · have HK4 := Lib.hid hk4
        clear hk4
        gi_wp2_with fail
        refine ⟨((HK1.out.1.trans (others_bel HB3.out)).from _).trans (HK4.out.up (by omega)), rfl, ys ++ [⟨(pre.length + 1, lineT x.1.data.toList), hel⟩], ?_, hj4⟩
        rw [ovals_snoc, HYS.out, HOS.out, if_neg ht, Nat.zero_add]
  case done =>
    rintro D xs V hD hxs ⟨ys, ⟨hys, hj⟩, ⟨bY, bN⟩, hsz⟩ hK
    have HYS := Lib.hid hys
    clear hys
    gi_wp2_with fail
    refine ⟨by simp, .inl ⟨_, _, rfl, run_takeDeferred hK, ?_⟩⟩
    refine ⟨_, results_none rfl _ _ _, ?_⟩
    refine ⟨⟨_, rfl⟩, .inl ⟨ys, ?_, hJ.turn.putObj _ hj (by omega) hK rfl⟩⟩
    rw [HYS.out, hxs]
  case stop =>
    rintro D c pre V hD hpre ⟨rfl, ys, hys, hj⟩ hK
    have HYS := Lib.hid hys
    clear hys
    gi_wp2_with fail
    refine ⟨by simp, .inl ⟨_, _, rfl, run_takeDeferred hK, ?_⟩⟩
    refine ⟨_, results_none rfl _ _ _, ?_⟩
    refine ⟨⟨_, rfl⟩, .inr ⟨ys, ?_, hJx.turn.putObj _ hj (by omega) hK rfl⟩⟩
    rw [HYS.out]
    exact outsL_pre hpre 0
end Go.Proofs.YtkphijabhoppnaaGreatDoor
