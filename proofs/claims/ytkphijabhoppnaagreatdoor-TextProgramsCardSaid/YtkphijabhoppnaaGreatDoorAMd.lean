/- The instructions of a text (brazier/text.Program). -/
import Derived.Test.YtkphijabhoppnaaGreatDoorAMc
import Derived.Test.YtkphijabhoppnaaGreatDoorALr
namespace Go.Proofs.YtkphijabhoppnaaGreatDoor
open Go.RowKit Go.Shelf Go.Proofs.YtkphijabhoppnaaGreatDoorW.PrintWords
set_option linter.unusedSimpArgs false
set_option linter.unusedVariables false
attribute [local go_sem] Oper.semAt_some
open Classical in
noncomputable def parO (t : List UInt8) : Option IR := if h : ∃ i, okI i ∧ insB i = t then some (Classical.choose h) else none
theorem parO_some {t : List UInt8} {i : IR} : parO t = some i ↔ okI i ∧ insB i = t := by
  unfold parO
  split
  · rename_i h
    have hc := Classical.choose_spec h
    constructor
    · intro e; rw [← Option.some.inj e]; exact hc
    · intro hi; rw [insB_inj hc.1 hi.1 (hc.2.trans hi.2.symm)]
  · rename_i h
    exact ⟨fun e => (by cases e), fun hi => absurd ⟨i, hi⟩ h⟩
theorem parO_none {t : List UInt8} : parO t = none ↔ ∀ i, okI i → insB i ≠ t := by
  unfold parO
  split
  · rename_i h
    obtain ⟨i, h1, h2⟩ := h
    exact ⟨fun e => (by cases e), fun hh => absurd h2 (hh i h1)⟩
  · rename_i h
    exact ⟨fun _ i hi e => h ⟨i, hi, e⟩, fun _ => rfl⟩
theorem parS_some {t : List UInt8} {i : IR} (h : parO t = some i) : ParS t i 0 := .inl ⟨(parO_some.1 h).1, (parO_some.1 h).2, rfl⟩
theorem parS_none {t : List UInt8} (h : parO t = none) : ParS t (i0 0) 5 := .inr ⟨parO_none.1 h, rfl, rfl⟩
noncomputable def prgL : List (Nat × List UInt8) → List IR → List IR × Nat × Int
  | [], out => (out, 0, 0)
  | x :: r, out => match parO x.2 with
    | none => ([], x.1, 5)
    | some i => prgL r (out ++ [i])
noncomputable def stepP (o : Option (List IR)) (x : Nat × List UInt8) : Option (List IR) := match o, parO x.2 with
  | some a, some b => some (a ++ [b])
  | _, _ => none
noncomputable def outP (pre : List (Nat × List UInt8)) : Option (List IR) := pre.foldl stepP (some [])
theorem outP_snoc (pre : List (Nat × List UInt8)) (x : Nat × List UInt8) : outP (pre ++ [x]) = stepP (outP pre) x := by simp [outP]
theorem stepP_none : ∀ l : List (Nat × List UInt8), l.foldl stepP none = none
  | [] => rfl
  | x :: r => by rw [List.foldl_cons]; exact stepP_none r
theorem prgL_app : ∀ (pre r : List (Nat × List UInt8)) (o out : List IR), pre.foldl stepP (some o) = some out → prgL (pre ++ r) o = prgL r out
  | [], r, o, out, h => by cases h; rfl
  | x :: p, r, o, out, h => by
    rw [List.foldl_cons] at h
    rw [List.cons_append, prgL]
    cases hx : parO x.2 with
    | none => rw [show stepP (some o) x = none by simp [stepP, hx], stepP_none] at h; cases h
    | some b =>
      rw [show stepP (some o) x = some (o ++ [b]) by simp [stepP, hx]] at h
      simp only
      exact prgL_app p r _ _ h
theorem outP_len : ∀ (pre : List (Nat × List UInt8)) (o out : List IR), pre.foldl stepP (some o) = some out → out.length = o.length + pre.length
  | [], o, out, h => by cases h; simp
  | x :: p, o, out, h => by
    rw [List.foldl_cons] at h
    cases hx : parO x.2 with
    | none => rw [show stepP (some o) x = none by simp [stepP, hx], stepP_none] at h; cases h
    | some b =>
      rw [show stepP (some o) x = some (o ++ [b]) by simp [stepP, hx]] at h
      have := outP_len p _ _ h
      rw [List.length_append] at this
      simp at this ⊢
      omega
noncomputable def progS (s : ByteArray) : List IR × Nat × Int := prgL (outsL 0 (linesB s)) []
theorem prog_all (s : ByteArray) (out : List IR) (h : outP (outsL 0 (linesB s)) = some out) : progS s = (out, 0, 0) := by
  have := prgL_app (outsL 0 (linesB s)) [] [] out h
  rw [List.append_nil] at this
  exact this
theorem prog_bad (s : ByteArray) (pre : List (Nat × List UInt8)) (x : Nat × List UInt8) (out : List IR) (h : outP pre = some out) (hx : parO x.2 = none) (hp : pre ++ [x] <+: outsL 0 (linesB s)) : progS s = ([], x.1, 5) := by
  obtain ⟨r, hr⟩ := hp
  rw [progS, ← hr, List.append_assoc, prgL_app pre ([x] ++ r) [] out h]
  show prgL (x :: r) _ = _
  rw [prgL, hx]
def irsC (l : List IR) : List Value := l.flatMap fun i => (irC i).toList
theorem irsC_app (a b : List IR) : irsC (a ++ b) = irsC a ++ irsC b := by simp [irsC]
theorem irsC_one (i : IR) : irsC [i] = (irC i).toList := by simp [irsC]
def ProgPost (w : World) (r : List IR × Nat × Int) (e : Ending) (w' : World) : Prop :=
  ∃ v', e = .returned (.tuple #[v', .int .i64 (r.2.1 : Nat), .int .i64 r.2.2]) ∧ w'.ownsRow w.heap.size 39 7 v' r.1.length (irsC r.1) ∧ Below w.heap.size w w'
theorem own_below {w : World} {base size n : Nat} {e : TypeId} {v : Value} {xs : List Value} {b : Nat} (h : w.ownsRow base e size v n xs) (hb : b < base) : some b ≠ v.ownBlock := by
  rcases h.2 with ⟨rfl, _⟩ | ⟨g, cap, cur, rfl, h1, _⟩
  · simp [Value.ownBlock]
  · intro e; have : b = g := by simpa [Value.ownBlock] using e
    omega
structure PgS (w : World) (v : Value) (out : List IR) (V : World) : Prop where
  bv : Boxed V (w.heap.size + 3) 22 v
  row : V.ownsRow (w.heap.size + 12) 39 7 v out.length (irsC out)
  b0 : Boxed V w.heap.size 22 (.slice none 0 0)
  b1 : Boxed V (w.heap.size + 1) 3 (.int .i64 0)
  b2 : Boxed V (w.heap.size + 2) 33 (.int .i64 0)
  below : Below w.heap.size w V
  size : w.heap.size + 5 ≤ V.heap.size
theorem PgS.turn {w : World} {v : Value} {out : List IR} {V V' : World} {row : Option Nat} (h : PgS w v out V) (hg : V.grownBy V' row) (hr : ∀ r, row = some r → w.heap.size + 5 ≤ r ∧ (∃ o : Obj, V.heap[r]? = some o ∧ o.isCells = false)) : PgS w v out V' := by
  have hne : ∀ b, b < w.heap.size + 5 → some b ≠ row := fun b hb e => by have := (hr b e.symm).1; omega
  refine ⟨h.bv.kept hg (hne _ (by omega)), ?_, h.b0.kept hg (hne _ (by omega)), h.b1.kept hg (hne _ (by omega)), h.b2.kept hg (hne _ (by omega)), ?_, Nat.le_trans h.size hg.size⟩
  · refine h.row.kept hg ?_
    cases hv : v.ownBlock with
    | none => exact .inl rfl
    | some g =>
      refine .inr fun e => ?_
      obtain ⟨o, ho, hc⟩ := (hr g (by first | exact e.symm | exact e)).2
      rcases h.row.2 with ⟨rfl, _⟩ | ⟨g', cap, cur, rfl, _, hgb, _⟩
      · simp [Value.ownBlock] at hv
      · obtain rfl : g' = g := by simpa [Value.ownBlock] using hv
        rw [hgb] at ho
        cases ho
        cases hc
  · exact h.below.trans ⟨hg.os, hg.tape, hg.output, hg.size, fun k hk => hg.block k (by have := h.size; omega) (hne _ (by omega))⟩
theorem PgS.later {w : World} {v : Value} {out : List IR} {V V' : World} (h : PgS w v out V) (hb : Below V.heap.size V V') : PgS w v out V' := h.turn (grown_bel hb) (fun r e => by cases e)
theorem PgS.own {w : World} {v : Value} {out : List IR} {V : World} (h : PgS w v out V) (b : Nat) (u : Value) (h1 : w.heap.size + 5 ≤ b) (h2 : b < w.heap.size + 12) : PgS w v out (V.setCell ⟨b, 0, none⟩ u) :=
  ⟨h.bv.other (by omega) _, ownsRow_setCell_below h.row (a := ⟨b, 0, none⟩) h2 _, h.b0.other (by omega) _, h.b1.other (by omega) _, h.b2.other (by omega) _, h.below.setCell (p := ⟨b, 0, none⟩) (by simp; omega) _, by simpa [World.setCell] using h.size⟩
theorem PgS.append {w : World} {v v' : Value} {out : List IR} {i : IR} {V V' : World} (h : PgS w v out V) (hsz : w.heap.size + 12 ≤ V.heap.size) (hg : V.grownBy V' v.ownBlock)
    (hr : V'.ownsRow (w.heap.size + 12) 39 7 v' (out.length + 1) (irsC out ++ (irC i).toList)) :
    Boxed V' (w.heap.size + 3) 22 v ∧ PgS w v' (out ++ [i]) (V'.setCell ⟨w.heap.size + 3, 0, none⟩ v') := by
  have hne : ∀ b, b < w.heap.size + 12 → some b ≠ v.ownBlock := fun b hb => own_below h.row hb
  have hb : Below w.heap.size w V' := h.below.trans ⟨hg.os, hg.tape, hg.output, hg.size, fun k hk => hg.block k (by omega) (hne _ (by omega))⟩
  refine ⟨h.bv.kept hg (hne _ (by omega)), (h.bv.kept hg (hne _ (by omega))).set _, ?_, (h.b0.kept hg (hne _ (by omega))).other (by omega) _, (h.b1.kept hg (hne _ (by omega))).other (by omega) _, (h.b2.kept hg (hne _ (by omega))).other (by omega) _, hb.setCell (p := ⟨w.heap.size + 3, 0, none⟩) (by simp) _, by have := h.size; have := hg.size; simp [World.setCell]; omega⟩
  have := ownsRow_setCell_below hr (a := ⟨w.heap.size + 3, 0, none⟩) (by simp) v'
  rw [List.length_append, irsC_app, irsC_one]
  exact this
theorem Parse_t (t : List UInt8) (w : World) (hG : GlobT w) (hs : t.length ≤ 1000000) (r : IR) (f : Int) (hp : ParS t r f) :
    Calls Tryz.prog 13 #[.string ⟨t.toArray⟩] w fun e w' => e = .returned (.tuple #[.agg (irC r), .int .i64 f]) ∧ Below w.heap.size w w' :=
  Parse_calls2 ⟨t.toArray⟩ w hG (by show t.toArray.size ≤ _; simpa using hs) r f (by simpa using hp)
theorem results_c3 {fn : Func} {p0 p1 p2 t0 t1 t2 : Nat} {tmps : Array Value} {V : World} {B0 B1 B2 : Nat} {v0 v1 v2 : Value} (h : fn.results = #[.cell p0 t0, .cell p1 t1, .cell p2 t2])
    (e0 : tmps.getD p0 undef = .pointer (some ⟨B0, 0, none⟩)) (e1 : tmps.getD p1 undef = .pointer (some ⟨B1, 0, none⟩)) (e2 : tmps.getD p2 undef = .pointer (some ⟨B2, 0, none⟩))
    (l0 : (loadVar t0 ⟨B0, 0, none⟩).run Tryz.prog V = .ok v0 V) (l1 : (loadVar t1 ⟨B1, 0, none⟩).run Tryz.prog V = .ok v1 V) (l2 : (loadVar t2 ⟨B2, 0, none⟩).run Tryz.prog V = .ok v2 V) :
    (results fn tmps).run Tryz.prog V = .ok (.tuple #[v0, v1, v2]) V := by
  have q0 : tmps[p0]?.getD undef = .pointer (some ⟨B0, 0, none⟩) := by simpa using e0
  have q1 : tmps[p1]?.getD undef = .pointer (some ⟨B1, 0, none⟩) := by simpa using e1
  have q2 : tmps[p2]?.getD undef = .pointer (some ⟨B2, 0, none⟩) := by simpa using e2
  simp [results, h, q0, q1, q2, asAddr, l0, l1, l2]
theorem info39 : (Tryz.prog.info? 39).map (fun i => (i.zero, i.size, i.bytes)) = some (some (.agg #[.int .i64 0, .int .i64 0, .int .i64 0, .int .i64 0, .int .i64 0, .int .i64 0, .int .i64 0]), 7, 56) := by kernel_rfl
theorem KpX.bel {B K : Nat} {A C : World} (h : Below A.heap.size A C) : KpX B K A C := ⟨(others_bel h).from _, fun b o _ _ hb => row_kept h hb⟩
theorem KpX.set {B K b k : Nat} (A : World) (v : Value) (h : b < B ∨ B + K ≤ b) : KpX B K A (A.setCell ⟨b, k, none⟩ v) :=
  ⟨(KeepsOthers.setCell _ _ _).from _, fun c o h1 h2 hc => (heap_setCell_ne A b k c v (by omega)).trans hc⟩
theorem app_oth {W w1 : World} {n₁ : Nat} {e : TypeId} {size n : Nat} {v : Value} {xs : List Value} (hrow : W.ownsRow n₁ e size v n xs) (hg : W.grownBy w1 v.ownBlock) : KeepsOthers W w1 := by
  refine KeepsOthers.of_grownBy hg fun j o ej hj => ?_
  rcases hrow.2 with ⟨rfl, _⟩ | ⟨g, cap, cur, rfl, _, hgb, _⟩
  · simp [Value.ownBlock] at ej
  · obtain rfl : g = j := by simpa [Value.ownBlock] using ej
    rw [hgb] at hj; cases hj; rfl
theorem KpX.app {B K : Nat} {W w1 : World} {base : Nat} {e : TypeId} {size n : Nat} {v : Value} {xs : List Value} (hrow : W.ownsRow base e size v n xs) (hg : W.grownBy w1 v.ownBlock) (hB : B + K ≤ base) : KpX B K W w1 :=
  ⟨(app_oth hrow hg).from _, fun b o _ h2 hb => (hg.block b (Array.getElem?_eq_some_iff.1 hb).1 (own_below hrow (by omega))).trans hb⟩
theorem seven_new (V : World) (i : IR) : ∀ (j : Nat) u, (irC i).toList[j]? = some u → (V.alloc (.cells (irC i) 39)).cell? ((⟨V.heap.size, 0, none⟩ : Addr).add j) = some u := by
  intro j u hu
  have h := cell_of_row _ _ j _ _ _ (heap_alloc_new V (.cells (irC i) 39))
  rw [← Array.getElem?_toList, hu] at h
  rw [← h]
  congr 1
  unfold Addr.add
  simp
  intro e; exact e.symm
theorem seven_at (V : World) (b : Nat) (hb : V.heap.size = b) (i : IR) : ∀ (j : Nat) u, (irC i).toList[j]? = some u → (V.alloc (.cells (irC i) 39)).cell? ((⟨b, 0, none⟩ : Addr).add j) = some u := by
  subst hb; exact seven_new V i
theorem row_bas {w : World} {base base' size n : Nat} {e : TypeId} {v : Value} {xs : List Value} (h : w.ownsRow base e size v n xs) (hb : base' ≤ base) : w.ownsRow base' e size v n xs := by
  obtain ⟨h1, h2 | ⟨g, cap, cur, e, hg, rest⟩⟩ := h
  · exact ⟨h1, .inl h2⟩
  · exact ⟨h1, .inr ⟨g, cap, cur, e, by omega, rest⟩⟩
theorem row_putD {w : World} {base size n D : Nat} {e : TypeId} {v : Value} {xs : List Value} (h : w.ownsRow base e size v n xs) (hK : w.heap[D]? = some (.deferred (some []))) : (w.putObj D (.deferred none)).ownsRow base e size v n xs := by
  refine h.kept (grownBy_putObj' w D _) ?_
  rcases h.2 with ⟨rfl, _⟩ | ⟨g, cap, cur, rfl, _, hgb, _⟩
  · exact .inl rfl
  · refine .inr fun e => ?_
    have e2 : g = D := by first | (simpa [Value.ownBlock] using e) | (simpa [Value.ownBlock] using e.symm)
    rw [e2, hK] at hgb
    cases hgb
theorem pgdone {w W : World} {v : Value} {out : List IR} {D : Nat} (h : PgS w v out W) (hK : W.heap[D]? = some (.deferred (some []))) (hD : w.heap.size + 5 ≤ D) (X : World)
    (hX : ((W.setCell ⟨w.heap.size, 0, none⟩ v).setCell ⟨w.heap.size + 1, 0, none⟩ (.int .i64 0)).setCell ⟨w.heap.size + 2, 0, none⟩ (.int .i64 0) = X) :
    X.heap[D]? = some (.deferred (some [])) ∧ (Boxed (X.putObj D (.deferred none)) w.heap.size 22 v ∧ Boxed (X.putObj D (.deferred none)) (w.heap.size + 1) 3 (.int .i64 0) ∧
    Boxed (X.putObj D (.deferred none)) (w.heap.size + 2) 33 (.int .i64 0)) ∧ (X.putObj D (.deferred none)).ownsRow w.heap.size 39 7 v out.length (irsC out) ∧ Below w.heap.size w (X.putObj D (.deferred none)) := by
  have k : KeepsOthers W X := by rw [← hX]; exact ((KeepsOthers.setCell _ _ _).trans (KeepsOthers.setCell _ _ _)).trans (KeepsOthers.setCell _ _ _)
  have b : Below w.heap.size w X := by
    rw [← hX]
    exact ((h.below.setCell (p := ⟨w.heap.size, 0, none⟩) (by simp) _).setCell (p := ⟨w.heap.size + 1, 0, none⟩) (by simp) _).setCell (p := ⟨w.heap.size + 2, 0, none⟩) (by simp) _
  have x0 : Boxed X w.heap.size 22 v := by rw [← hX]; exact ((h.b0.set _).other (by omega) _).other (by omega) _
  have x1 : Boxed X (w.heap.size + 1) 3 (.int .i64 0) := by rw [← hX]; exact ((h.b1.other (by omega) _).set _).other (by omega) _
  have x2 : Boxed X (w.heap.size + 2) 33 (.int .i64 0) := by rw [← hX]; exact ((h.b2.other (by omega) _).other (by omega) _).set _
  have hr : X.ownsRow (w.heap.size + 12) 39 7 v out.length (irsC out) := by
    rw [← hX]
    exact ownsRow_setCell_below (ownsRow_setCell_below (ownsRow_setCell_below h.row (by simp) _) (by simp) _) (by simp) _
  have hd : X.heap[D]? = some (.deferred (some [])) := k.same _ _ hK rfl
  exact ⟨hd, ⟨boxed_put hd x0, boxed_put hd x1, boxed_put hd x2⟩, row_bas (row_putD hr hd) (by omega), b.trans (belowK_b (w := w) (Nat.le_refl _) _ D _ _ (by omega) hd rfl rfl)⟩
set_option maxHeartbeats 4000000 in
set_option maxRecDepth 100000 in
theorem Program_calls (s : ByteArray) (w : World) (hs : s.size ≤ 60000) (hG : GlobT w) : Calls Tryz.prog 10 #[.string s] w (ProgPost w (progS s)) := by
  have HG := Lib.hid hG
  have HL := Lib.hid hs
  clear hG hs
  obtain ⟨ie, hie, hz0, hz1, hz2⟩ := info_parts info39
  refine (callsIn_wide (n := 6)).1 ?_
  refine callsIn_of_wp_marks Tryz.func10 rfl trivial ?_ rfl
  simp only [Tryz.ntmps10, List.size_toArray, List.length_cons, List.length_nil, Nat.reduceAdd, Nat.reduceSub, Array.replicate_succ, Array.replicate_zero, List.push_toArray, List.append_toArray, List.nil_append, List.cons_append]
  refine wpIn_wide.2 ?_
  go_wp2_with (first | (go_at_call 7; refine (Lines_calls _ _).mono ?_; rintro e w1 ⟨rfl, rfl⟩) | fail)
  simp only [Nat.add_assoc, Nat.reduceAdd]
  obtain ⟨W0, hW0⟩ : ∃ W0, (((((w.alloc (Obj.cells #[Value.slice none 0 0] 22)).alloc (Obj.cells #[Value.int IntKind.i64 0] 3)).alloc (Obj.cells #[Value.int IntKind.i64 0] 33)).alloc (Obj.cells #[Value.slice none 0 0] 22)).alloc (Obj.cells #[Value.string s] 9)) = W0 := ⟨_, rfl⟩
  have hz : W0.heap.size = w.heap.size + 5 := by rw [← hW0]; simp
  have hB0 : Below w.heap.size w W0 := by
    rw [← hW0]
    exact (((((Below.refl _ w).alloc (Nat.le_refl _) _).alloc (by simp) _).alloc (by simp; omega) _).alloc (by simp; omega) _).alloc (by simp; omega) _
  have zz : (Boxed W0 w.heap.size 22 (.slice none 0 0) ∧ Boxed W0 (w.heap.size + 1) 3 (.int .i64 0)) ∧ Boxed W0 (w.heap.size + 2) 33 (.int .i64 0) ∧ Boxed W0 (w.heap.size + 3) 22 (.slice none 0 0) ∧ Boxed W0 (w.heap.size + 4) 9 (.string s) := by
    rw [← hW0]
    unfold Boxed
    simp [heap_al, Array.getElem_push, Nat.add_assoc]
  obtain ⟨⟨z0, z1⟩, z2, z3, z4⟩ := zz
  rw [hW0]
  clear hW0
  have P00 : PgS w (.slice none 0 0) [] W0 := ⟨z3, World.ownsRow_nil _ _ _ _, z0, z1, z2, hB0, by omega⟩
  refine (wpIn_wide (n := 6)).1 ?_
  refine rangeFunc_x (M := 5) rfl (by omega) (gf := 15) (lb := #[.pointer (some ⟨w.heap.size + 4, 0, none⟩)]) rfl trivial (enters_of Tryz.func15 (by kernel_rfl) rfl)
    (lines_iter s (by have := HL.out; omega) _ (by omega) (w.heap.size + 4) W0 z4) (Below.refl _ _) (fun _ => rfl)
    (fun pre W => ∃ v out, PgS w v out W ∧ outP (ovals pre) = some out)
    (fun c pre W => ((∃ k : Nat, (Boxed W (w.heap.size + 1) 3 (.int .i64 k) ∧ Boxed W w.heap.size 22 (.slice none 0 0)) ∧ Boxed W (w.heap.size + 2) 33 (.int .i64 5) ∧ ∃ p t out, ovals pre = p ++ [(k, t)] ∧ outP p = some out ∧ parO t = none) ∧ (Below w.heap.size w W ∧ w.heap.size + 5 ≤ W.heap.size)) ∧ c = .ret)
    ?hI ?hIx ?hIb ?hIxb ?hIG ⟨_, [], P00, rfl⟩ (fun x b W => True) (fun _ _ _ _ _ _ _ _ _ => trivial) (fun x b a => (((a.setIfInBounds 12 (.int .i64 x.1.1)).setIfInBounds 13 (.string ⟨x.1.2.toArray⟩)).setIfInBounds 6 (.int .i64 x.1.1)).setIfInBounds 7 (.string ⟨x.1.2.toArray⟩)) ?assign ?body ?done ?stop
  case hI =>
    rintro pre A C row ⟨v, out, P, ho⟩ hg hr
    exact ⟨v, out, P.turn hg (fun r e => ⟨by have := (hr r e).1; omega, (hr r e).2⟩), ho⟩
  case hIx =>
    rintro c pre A C row ⟨⟨⟨k, ⟨b1, b0⟩, b2, hh⟩, hb, hsz⟩, hc⟩ hg hr
    have hne : ∀ b, b < w.heap.size + 5 → some b ≠ row := fun b hb e => by have := (hr b e.symm).1; omega
    exact ⟨⟨⟨k, ⟨b1.kept hg (hne _ (by omega)), b0.kept hg (hne _ (by omega))⟩, b2.kept hg (hne _ (by omega)), hh⟩, hb.trans ⟨hg.os, hg.tape, hg.output, hg.size, fun k hk => hg.block k (by omega) (hne _ (by omega))⟩, Nat.le_trans hsz hg.size⟩, hc⟩
  case hIb =>
    rintro pre A b u h1 h2 ⟨v, out, P, ho⟩
    exact ⟨v, out, P.own b u (by omega) (by omega), ho⟩
  case hIxb =>
    rintro c pre A b u h1 h2 ⟨⟨⟨k, ⟨b1, b0⟩, b2, hh⟩, hb, hsz⟩, hc⟩
    exact ⟨⟨⟨k, ⟨b1.other (by omega) _, b0.other (by omega) _⟩, b2.other (by omega) _, hh⟩, hb.setCell (p := ⟨b, 0, none⟩) (by simp; omega) _, by simpa [World.setCell] using hsz⟩, hc⟩
  case hIG =>
    rintro pre A ⟨v, out, P, ho⟩
    exact HG.out.below P.below
  case assign =>
    rintro q pre x W K hI hK
    dsimp only [encL]
    gi_wp2
    exact hK 0 W (KeepsFrom.refl _ _) ((KpX.bel (Below.refl _ _))) hI trivial
  case body =>
    rintro q pre x b W hq ⟨r, hr⟩ ⟨v, out, P0, ho⟩ - hlen hsz
    have hN := linesB_len s
    have hL := HL.out
    have hxs := x.2
    have hol := outP_len (ovals pre) [] out ho
    have hopl : (ovals pre).length = pre.length := by simp [ovals]
    rw [hopl] at hol
    simp only [List.length_nil, Nat.zero_add] at hol
    obtain ⟨⟨k, t⟩, hkt⟩ : ∃ p : Nat × List UInt8, x.1 = p := ⟨_, rfl⟩
    rw [hkt] at hxs
    dsimp only at hxs
    have hos : ovals (pre ++ [x]) = ovals pre ++ [(k, t)] := by rw [ovals_snoc, hkt]
    have HG0 := Lib.hid (HG.out.below P0.below)
    have HP0 := Lib.hid P0
    have HOS := Lib.hid hos
    have HO := Lib.hid ho
    have HSZ := Lib.hid (show w.heap.size + 12 ≤ W.heap.size by omega)
    have HOL := Lib.hid (show out.length ≤ 70000 by omega)
    have HQ := Lib.hid hr
    have hk2 : (k : Int) ≤ 200000 := by omega
    clear hos ho hr hol hopl hN P00 z0 z1 z2 z3 z4 hlen
    simp only [List.setIfInBounds_toArray, List.set_cons_succ, List.set_cons_zero, hkt]
    cases hp : parO t with
    | none =>
      have HPa : Hid (∀ W, GlobT W → Calls Tryz.prog 13 #[.string ⟨t.toArray⟩] W fun e w' => e = .returned (.tuple #[.agg #[.int .i64 0, .int .i64 0, .int .i64 0, .int .i64 0, .int .i64 0, .int .i64 0, .int .i64 0], .int .i64 5]) ∧ Below W.heap.size W w') := Lib.hid (fun W hW => Parse_t t W hW (by omega) (i0 0) 5 (parS_none hp))
      have HPN := Lib.hid hp
      clear hp hkt
      gi_wp2_with (first | (refine ⟨trivial, ?_⟩; gi_at_call 13; refine (CallsIn.inRound q (callsIn_wide.2 (HPa.out _ HG0.out))).mono ?_; rintro e V1 ⟨rfl, hv1⟩; have hb1 := hv1.alloc hv1.size (.cells #[.int .i64 0, .int .i64 0, .int .i64 0, .int .i64 0, .int .i64 0, .int .i64 0, .int .i64 0] 39); have P1 := HP0.out.later hb1; have c0 := P1.b0.cell; have c1 := P1.b1.cell; have c2 := P1.b2.cell; have f0 := P1.b0.frozen; have f1 := P1.b1.frozen; have f2 := P1.b2.frozen; have HP1 := Lib.hid P1; have HB1 := Lib.hid hb1; clear P1 hb1 hv1) | fail)
      have P1 := HP1.out
      refine ⟨((((others_bel HB1.out).trans (KeepsOthers.setCell _ _ _)).trans (KeepsOthers.setCell _ _ _)).trans (KeepsOthers.setCell _ _ _)).from _, ⟨⟨k, ⟨((P1.b1.other (by omega) _).set _).other (by omega) _, ((P1.b0.set _).other (by omega) _).other (by omega) _⟩, ((P1.b2.other (by omega) _).other (by omega) _).set _, _, _, out, HOS.out, HO.out, HPN.out⟩, ?_, ?_⟩, rfl⟩
      · exact ((P1.below.setCell (p := ⟨w.heap.size, 0, none⟩) (by simp) _).setCell (p := ⟨w.heap.size + 1, 0, none⟩) (by simp) _).setCell (p := ⟨w.heap.size + 2, 0, none⟩) (by simp) _
      · have := P1.size; simpa [World.setCell] using this
    | some i =>
      have hgood : outP (ovals (pre ++ [x])) = some (out ++ [i]) := by
        rw [HOS.out, outP_snoc, HO.out]; simp [stepP, hp]
      have HGD := Lib.hid hgood
      obtain ⟨io, id, ii, im, ia, ic, iz⟩ := i
      have HPa : Hid (∀ W, GlobT W → Calls Tryz.prog 13 #[.string ⟨t.toArray⟩] W fun e w' => e = .returned (.tuple #[.agg #[.int .i64 io, .int .i64 id, .int .i64 ii, .int .i64 im, .int .i64 ia, .int .i64 ic, .int .i64 iz], .int .i64 0]) ∧ Below W.heap.size W w') := Lib.hid (fun W hW => Parse_t t W hW (by omega) _ 0 (parS_some hp))
      clear hp hkt hgood
      gi_wp2_with (first | (refine ⟨trivial, ?_⟩; gi_at_call 13; refine (CallsIn.inRound q (callsIn_wide.2 (HPa.out _ HG0.out))).mono ?_; rintro e V1 ⟨rfl, hv1⟩; have hb1 := hv1.alloc hv1.size (.cells #[.int .i64 io, .int .i64 id, .int .i64 ii, .int .i64 im, .int .i64 ia, .int .i64 ic, .int .i64 iz] 39); have P1 := HP0.out.later hb1; have c3 := P1.bv.cell; obtain ⟨x0, x1, x2, x3, x4, x5, x6⟩ := cells7 (heap_alloc_new V1 (.cells #[.int .i64 io, .int .i64 id, .int .i64 ii, .int .i64 im, .int .i64 ia, .int .i64 ic, .int .i64 iz] 39)); have HP1 := Lib.hid P1; have HB1 := Lib.hid hb1; clear P1 hb1 hv1) | (gi_at_builtin; go_loud (have P2 := HP1.out.later ((Below.refl _ _).alloc (Nat.le_refl _) (.cells (irC ⟨io, id, ii, im, ia, ic, iz⟩) 39)); refine wpListIn_append_own _ rfl _ _ 22 rfl (w.heap.size + 12) 39 ie (.agg #[.int .i64 0, .int .i64 0, .int .i64 0, .int .i64 0, .int .i64 0, .int .i64 0, .int .i64 0]) 7 56 Tryz.underlying22 hie hz0 hz1 hz2 rfl (by decide) _ _ _ rfl P2.row ⟨_, 0, none⟩ 1 1 (irC ⟨io, id, ii, im, ia, ic, iz⟩).toList rfl rfl (seven_at (V1.alloc (.cells (irC ⟨io, id, ii, im, ia, ic, iz⟩) 39)) (V1.heap.size + 1) (by simp) ⟨io, id, ii, im, ia, ic, iz⟩) (by intro u hu; simp [irC] at hu; rcases hu with rfl | rfl | rfl | rfl | rfl | rfl | rfl <;> rfl) (by have := HOL.out; unfold maxLen; omega) (by have := HOL.out; omega) (by have := HB1.out.size; have := HSZ.out; simp at *; omega) ?_; intro v2 W4 hown4 hgrow4 _; rcases own_form2 hown4 with rfl | ⟨g4, cap4, rfl⟩; (exfalso; rcases hown4.2 with ⟨_, h0⟩ | ⟨g', cap', _, h0, _⟩; (omega); (cases h0)); have HP2 := Lib.hid P2; obtain ⟨bw, P5⟩ := P2.append (by have := HB1.out.size; have := HSZ.out; simp at *; omega) hgrow4 hown4; have cw := bw.cell; have fw := bw.frozen; have HP5 := Lib.hid P5; have HO4 := Lib.hid (app_oth P2.row hgrow4); have HK4 := Lib.hid (KpX.app (B := w.heap.size + 7) (K := 5) P2.row hgrow4 (by omega)); clear P2 P5 bw hown4 hgrow4)) | fail)
      refine ⟨((((others_bel HB1.out).trans (others_bel ((Below.refl _ _).alloc (Nat.le_refl _) _))).trans HO4.out).trans (KeepsOthers.setCell _ _ _)).from _, ?_, _, _, HP5.out, HGD.out⟩
      rw [show W0.heap.size + 2 = w.heap.size + 7 by omega]
      exact (((KpX.bel HB1.out).trans (KpX.bel ((Below.refl _ _).alloc (Nat.le_refl _) _))).trans HK4.out).trans (KpX.set _ _ (by omega))
  case done =>
    rintro D xs W hD hxs ⟨v, out, P, ho⟩ hK
    have hps : progS s = (out, 0, 0) := prog_all s out (hxs ▸ ho)
    have hol := outP_len (ovals xs) [] out ho
    have hN := linesB_len s
    have hL := HL.out
    have hxl := outsL_len (linesB s) 0
    rw [← hxs] at hxl
    simp only [List.length_nil, Nat.zero_add] at hol
    have hob : out.length ≤ 65536 := by omega
    have q1 : decide ((out.length : Int) > 65536) = false := decide_eq_false (by omega)
    have q2 : ¬ ((65536 : Int) < out.length) := by omega
    have c0 := P.b0.cell
    have c1 := P.b1.cell
    have c2 := P.b2.cell
    have c3 := P.bv.cell
    have d0 := P.b0.frozen
    have d1 := P.b1.frozen
    have d2 := P.b2.frozen
    have HPS := Lib.hid hps
    have HP := Lib.hid P
    have HK := Lib.hid hK
    clear ho hps hK hol hxl hN P00 z0 z1 z2 z3 z4
    rcases own_form2 P.row with rfl | ⟨g, cap, rfl⟩
    all_goals
      clear P
      go_wp2_with fail
      obtain ⟨k1, ⟨k2, k3, k4⟩, k5, k6⟩ := pgdone HP.out HK.out (by omega) _ rfl
      refine ⟨by simp, .inl ⟨_, _, rfl, run_takeDeferred k1, ?_⟩⟩
      refine ⟨_, results_c3 (fn := Tryz.f10) rfl rfl rfl rfl (load_b k2.cell (by kernel_rfl)) (load_b k3.cell (by kernel_rfl)) (load_b k4.cell (by kernel_rfl)), ?_⟩
      rw [ProgPost, HPS.out]
      exact ⟨_, rfl, k5, k6⟩
  case stop =>
    rintro D c pre W hD hpre ⟨⟨⟨k, ⟨b1, b0⟩, b2, p, t, out, e1, e2, e3⟩, hb, hsz⟩, rfl⟩ hK
    rw [e1] at hpre
    have HPS := Lib.hid (prog_bad s p (k, t) out e2 e3 hpre)
    gi_wp2_with fail
    refine ⟨by simp, .inl ⟨_, _, rfl, run_takeDeferred hK, ?_⟩⟩
    refine ⟨_, results_c3 (fn := Tryz.f10) rfl rfl rfl rfl (load_b (boxed_put hK b0).cell (by kernel_rfl)) (load_b (boxed_put hK b1).cell (by kernel_rfl)) (load_b (boxed_put hK b2).cell (by kernel_rfl)), ?_⟩
    rw [ProgPost, HPS.out]
    exact ⟨_, rfl, World.ownsRow_nil _ _ _ _, hb.trans (belowK_b (w := w) (Nat.le_refl _) _ D _ _ (by omega) hK rfl rfl)⟩
end Go.Proofs.YtkphijabhoppnaaGreatDoor
