/- Parse: plain law and walk. -/
import Derived.Test.YtkphijabhoppnaaDoorSa
import Derived.Test.YtkphijabhoppnaaDoorTb
import Derived.Deep.RegionWith
import Derived.Sort.QuietIn
import Derived.Deep.CutRange
import Derived.Sort.CutIn
import Derived.Stop.RegionWithIn
namespace Go.Proofs.YtkphijabhoppnaaDoor
open Go.RowKit Go.Shelf
set_option linter.unusedSimpArgs false
set_option linter.unusedVariables false
attribute [local go_sem] Oper.semAt_some

/-- A line's bytes; none: it is none. -/
def lineO (x : ByteArray) : Option (List Int) := if fieldsB x = [] then some [] else lineS ((fieldsB x).map fun y => y.data.toList)
def outF (o : Option (List Int)) (x : ByteArray) : Option (List Int) := match o, lineO x with
  | some a, some b => some (a ++ b)
  | _, _ => none
def outS (pre : List ByteArray) : Option (List Int) := pre.foldl outF (some [])
theorem outS_snoc (pre : List ByteArray) (x : ByteArray) : outS (pre ++ [x]) = outF (outS pre) x := by simp [outS]
def parseL : List ByteArray → Nat → List Int → List Int × Int × Int
  | [], _, out => (out, 0, 0)
  | x :: r, n, out => match lineO x with
    | none => ([], (n + 1 : Nat), 5)
    | some b => parseL r (n + 1) (out ++ b)
def parseS (s : ByteArray) : List Int × Int × Int := parseL (linesB s) 0 []
theorem outF_bad (o : Option (List Int)) (x : ByteArray) (h : lineO x = none) : outF o x = none := by
  unfold outF
  rw [h]
  cases o <;> rfl
theorem outF_good (a b : List Int) (x : ByteArray) (h : lineO x = some b) : outF (some a) x = some (a ++ b) := by
  unfold outF
  rw [h]
theorem outF_none : ∀ l : List ByteArray, l.foldl outF none = none
  | [] => rfl
  | x :: r => by rw [List.foldl_cons]; exact outF_none r
theorem parseL_app : ∀ (pre r : List ByteArray) (n : Nat) (o out : List Int), pre.foldl outF (some o) = some out → parseL (pre ++ r) n o = parseL r (n + pre.length) out
  | [], r, n, o, out, h => by cases h; rfl
  | x :: p, r, n, o, out, h => by
    rw [List.foldl_cons] at h
    rw [List.cons_append, parseL]
    cases hx : lineO x with
    | none => rw [outF_bad _ _ hx, outF_none] at h; cases h
    | some b =>
      rw [outF_good _ _ _ hx] at h
      simp only
      rw [parseL_app p r (n + 1) _ _ h, List.length_cons]
      congr 1
      omega
theorem parse_all (s : ByteArray) (out : List Int) (h : outS (linesB s) = some out) : parseS s = (out, 0, 0) := by
  have := parseL_app (linesB s) [] 0 [] out h
  rw [List.append_nil] at this
  exact this
theorem parse_bad (s : ByteArray) (pre : List ByteArray) (x : ByteArray) (out : List Int) (h : outS pre = some out) (hx : lineO x = none) (hp : pre ++ [x] <+: linesB s) : parseS s = ([], Int.ofNat (pre ++ [x]).length, 5) := by
  obtain ⟨r, hr⟩ := hp
  rw [parseS, ← hr, List.append_assoc, parseL_app pre ([x] ++ r) 0 [] out h]
  show parseL (x :: r) _ _ = _
  rw [parseL, hx, List.length_append]
  simp
theorem writeS_len (c a b : Int) (h : (writeS c a b).2 = 0) : 1 ≤ (writeS c a b).1.length ∧ (writeS c a b).1.length ≤ 3 := by
  unfold writeS at *
  split at h
  · rename_i h0
    rw [if_pos h0]
    generalize opk c = k at *
    unfold writeK at *
    split at h <;> split at h <;> first | (simp at h; done) | (rename_i h1; simp only [if_pos h1]; simp)
  · simp at h
theorem lineS_len (l : List (List UInt8)) (bs : List Int) (h : lineS l = some bs) : 1 ≤ bs.length ∧ bs.length ≤ 3 := by
  have key : ∀ c a b, (if (writeS c a b).2 = 0 then some (writeS c a b).1 else none) = some bs → 1 ≤ bs.length ∧ bs.length ≤ 3 := by
    intro c a b h
    split at h
    · cases h; exact writeS_len _ _ _ ‹_›
    · cases h
  cases l with
  | nil => cases h
  | cons f r =>
    rw [lineS] at h
    split at h
    · unfold argsS at h
      split at h
      · split at h
        · exact key _ _ _ h
        · cases h
      · split at h
        · split at h
          · exact key _ _ _ h
          · cases h
        · cases h
      · split at h
        · split at h
          · exact key _ _ _ h
          · cases h
        · cases h
      · cases h
    · cases h
theorem lineO_len (x : ByteArray) (bs : List Int) (h : lineO x = some bs) : bs.length ≤ 3 := by
  unfold lineO at h
  split at h
  · cases h; simp
  · exact (lineS_len _ _ h).2
theorem outS_len : ∀ (pre : List ByteArray) (o out : List Int), pre.foldl outF (some o) = some out → out.length ≤ o.length + 3 * pre.length
  | [], o, out, h => by cases h; simp
  | x :: p, o, out, h => by
    rw [List.foldl_cons] at h
    cases hx : lineO x with
    | none => rw [outF_bad _ _ hx, outF_none] at h; cases h
    | some b =>
      rw [outF_good _ _ _ hx] at h
      have h1 := outS_len p _ _ h
      have h2 := lineO_len x b hx
      rw [List.length_append] at h1
      rw [List.length_cons]
      omega

def outV {s : ByteArray} (pre : List (LineOf s)) : List Int := (outS (lvals pre)).getD []
end Go.Proofs.YtkphijabhoppnaaDoor
namespace Go.Proofs.YtkphijabhoppnaaDoor
open Go.RowKit Go.Shelf Go.Proofs.YtkphijabhoppnaaDoorW.PrintWords
set_option linter.unusedSimpArgs false
set_option linter.unusedVariables false
attribute [local go_sem] Oper.semAt_some

theorem heap_alloc_eq (w : World) (o : Obj) : (w.alloc o).heap = w.heap.push o := rfl
theorem KpS.below {Bs Bp Bv : Nat} {A B : World} (h : Below A.heap.size A B) : KpS Bs Bp Bv A B :=
  ⟨fun v x => boxed_below x h, fun v x => boxed_below x h, fun v x => boxed_below x h, h.size⟩
theorem KpS.set {Bs Bp Bv : Nat} (A : World) (B : Nat) (v : Value) (h1 : Bs ≠ B) (h2 : Bp ≠ B) (h3 : Bv ≠ B) : KpS Bs Bp Bv A (A.setCell ⟨B, 0, none⟩ v) :=
  ⟨fun u x => x.other h1 _, fun u x => x.other h2 _, fun u x => x.other h3 _, by simp [World.setCell]⟩
theorem KpS.put {Bs Bp Bv : Nat} (N : Nat) (W : World) (l : Nat) (o o' : Obj) (hl : N ≤ l) (h : W.heap[l]? = some o) (hc : o.isCells = false) (hw : o.isWalk = false) : KpS Bs Bp Bv W (W.putObj l o') := by
  have key : ∀ B t v, Boxed W B t v → Boxed (W.putObj l o') B t v := by
    intro B t v hb
    refine (World.putObj_heap_other (fun e => ?_)).trans hb
    subst e
    unfold Boxed at hb
    rw [h] at hb
    cases hb
    cases hc
  exact ⟨fun v => key _ _ v, fun v => key _ _ v, fun v => key _ _ v, by simp⟩
theorem KpS.app {Bs Bp Bv : Nat} {W w1 : World} {base : Nat} {v : Value} {n : Nat} {xs : List Value} (hr : W.ownsRow base 5 1 v n xs) (hg : W.grownBy w1 v.ownBlock) : KpS Bs Bp Bv W w1 := by
  have key : ∀ B t u, t ≠ 5 → Boxed W B t u → Boxed w1 B t u := fun B t u ht hb => hb.kept hg (hb.not_row ht hr)
  exact ⟨fun v => key _ _ v (by decide), fun v => key _ _ v (by decide), fun v => key _ _ v (by decide), hg.size⟩

def ParsePost (w : World) (r : List Int × Int × Int) (e : Ending) (w' : World) : Prop :=
  ∃ v', e = .returned (.tuple #[v', .int .i64 r.2.1, .int .i64 r.2.2]) ∧ w'.ownsRow w.heap.size 5 1 v' r.1.length (nums .u8 r.1) ∧ Below w.heap.size w w'

theorem words_of {W : World} {base A : Nat} {x : ByteArray} (h : W.ownsRow base 9 1 (.slice (some ⟨A, 0, none⟩) (fieldsB x).length (fieldsB x).length) (fieldsB x).length ((fieldsB x).map Value.string)) : Words W A (fieldsB x).length (fieldsB x) := by
  refine ⟨rfl, (h.lt A rfl).2, fun j s hj => ?_⟩
  rw [h.cellAt j (by have := (List.getElem?_eq_some_iff.1 hj).1; omega), List.getElem?_map, hj]
  rfl

theorem own_form {w : World} {base size n : Nat} {e : TypeId} {v : Value} {xs : List Value} (h : w.ownsRow base e size v n xs) (hn : 1 ≤ n) : ∃ g cap, v = .slice (some ⟨g, 0, none⟩) n cap := by
  rcases h.2 with ⟨_, h0⟩ | ⟨g, cap, _, rfl, _⟩
  · omega
  · exact ⟨g, cap, rfl⟩
theorem grown_below {A B : World} (h : Below A.heap.size A B) : A.grownBy B none := ⟨h.os, h.tape, h.output, h.size, fun k hk _ => h.block k hk⟩
theorem others_below {A B : World} (h : Below A.heap.size A B) : KeepsOthers A B := ⟨h.size, fun k o hk _ => row_kept h hk⟩
theorem app_others2 {W w1 : World} {n₁ : Nat} {e : TypeId} {size n : Nat} {v : Value} {xs : List Value} (hrow : W.ownsRow n₁ e size v n xs) (hg : W.grownBy w1 v.ownBlock) : KeepsOthers W w1 := by
  refine KeepsOthers.of_grownBy hg fun j o ej hj => ?_
  rcases hrow.2 with ⟨rfl, _⟩ | ⟨g, cap, cur, rfl, _, hgb, _⟩
  · simp [Value.ownBlock] at ej
  · obtain rfl : g = j := by simpa [Value.ownBlock] using ej
    rw [hgb] at hj; cases hj; rfl
/-- Parse's state. -/
structure PSt (w : World) (v : Value) (out : List Int) (n : Int) (V : World) : Prop where
  bv : Boxed V (w.heap.size + 3) 22 v
  row : V.ownsRow (w.heap.size + 8) 5 1 v out.length (nums .u8 out)
  bn : Boxed V (w.heap.size + 4) 3 (.int .i64 n)
  b0 : Boxed V w.heap.size 22 (.slice none 0 0)
  b1 : Boxed V (w.heap.size + 1) 3 (.int .i64 0)
  b2 : Boxed V (w.heap.size + 2) 26 (.int .i64 0)
  below : Below w.heap.size w V
  size : w.heap.size + 8 ≤ V.heap.size
theorem PSt.later {w : World} {v : Value} {out : List Int} {n : Int} {V V' : World} (h : PSt w v out n V) (hb : Below V.heap.size V V') : PSt w v out n V' :=
  ⟨boxed_below h.bv hb, h.row.kept (grown_below hb) (by cases v.ownBlock <;> simp), boxed_below h.bn hb, boxed_below h.b0 hb, boxed_below h.b1 hb, boxed_below h.b2 hb,
   h.below.trans (hb.mono h.below.size), Nat.le_trans h.size hb.size⟩
theorem PSt.count {w : World} {v : Value} {out : List Int} {n : Int} {V : World} (m : Int) (h : PSt w v out n V) : PSt w v out m (V.setCell ⟨w.heap.size + 4, 0, none⟩ (.int .i64 m)) :=
  ⟨h.bv.other (by omega) _, ownsRow_setCell_below h.row (by simp) _, h.bn.set _, h.b0.other (by omega) _, h.b1.other (by omega) _, h.b2.other (by omega) _,
   h.below.setCell (p := ⟨w.heap.size + 4, 0, none⟩) (by simp) _, by simpa [World.setCell] using h.size⟩
theorem PSt.append {w : World} {v : Value} {out : List Int} {n : Int} {V V' : World} {v' : Value} {bs : List Int} (h : PSt w v out n V) (hg : V.grownBy V' v.ownBlock)
    (hr : V'.ownsRow (w.heap.size + 8) 5 1 v' (out.length + bs.length) (nums .u8 out ++ nums .u8 bs)) :
    Boxed V' (w.heap.size + 3) 22 v ∧ PSt w v' (out ++ bs) n (V'.setCell ⟨w.heap.size + 3, 0, none⟩ v') := by
  have k : ∀ B t u, t ≠ 5 → Boxed V B t u → Boxed V' B t u := fun B t u ht hb => hb.kept hg (hb.not_row ht h.row)
  have hb : Below w.heap.size w V' := h.below.grown hg (by have := h.size; omega) (fun j e => by have := row_ge h.row j e; omega)
  refine ⟨k _ _ _ (by decide) h.bv, (k _ _ _ (by decide) h.bv).set _, ?_, (k _ _ _ (by decide) h.bn).other (by omega) _, (k _ _ _ (by decide) h.b0).other (by omega) _, (k _ _ _ (by decide) h.b1).other (by omega) _, (k _ _ _ (by decide) h.b2).other (by omega) _,
    hb.setCell (p := ⟨w.heap.size + 3, 0, none⟩) (by simp) _, by have := h.size; have := hg.size; simp [World.setCell]; omega⟩
  have := ownsRow_setCell_below hr (a := ⟨w.heap.size + 3, 0, none⟩) (by simp) v'
  rw [List.length_append]
  simpa [nums] using this

/-- Parse's results, where a line is none. -/
def PBad (w : World) (n : Int) (V : World) : Prop :=
  ((Boxed V w.heap.size 22 (.slice none 0 0) ∧ Boxed V (w.heap.size + 1) 3 (.int .i64 n)) ∧ Boxed V (w.heap.size + 2) 26 (.int .i64 5)) ∧ (Below w.heap.size w V ∧ w.heap.size + 8 ≤ V.heap.size)

theorem pdone {w W : World} {v : Value} {out : List Int} {n : Int} {D : Nat} (h : PSt w v out n W) (hK : W.heap[D]? = some (.deferred (some []))) (hD : w.heap.size + 8 ≤ D) (X : World)
    (hX : ((W.setCell ⟨w.heap.size, 0, none⟩ v).setCell ⟨w.heap.size + 1, 0, none⟩ (.int .i64 0)).setCell ⟨w.heap.size + 2, 0, none⟩ (.int .i64 0) = X) :
    X.heap[D]? = some (.deferred (some [])) ∧ (X.putObj D (.deferred none)).cell? ⟨w.heap.size, 0, none⟩ = some v ∧ (X.putObj D (.deferred none)).cell? ⟨w.heap.size + 1, 0, none⟩ = some (.int .i64 0) ∧
    (X.putObj D (.deferred none)).cell? ⟨w.heap.size + 2, 0, none⟩ = some (.int .i64 0) ∧ (X.putObj D (.deferred none)).ownsRow w.heap.size 5 1 v out.length (nums .u8 out) ∧ Below w.heap.size w (X.putObj D (.deferred none)) := by
  have k : KeepsOthers W X := by rw [← hX]; exact ((KeepsOthers.setCell _ _ _).trans (KeepsOthers.setCell _ _ _)).trans (KeepsOthers.setCell _ _ _)
  have b : Below w.heap.size w X := by
    rw [← hX]
    exact ((h.below.setCell (p := ⟨w.heap.size, 0, none⟩) (by simp) _).setCell (p := ⟨w.heap.size + 1, 0, none⟩) (by simp) _).setCell (p := ⟨w.heap.size + 2, 0, none⟩) (by simp) _
  have x0 : Boxed X w.heap.size 22 v := by rw [← hX]; exact ((h.b0.set _).other (by omega) _).other (by omega) _
  have x1 : Boxed X (w.heap.size + 1) 3 (.int .i64 0) := by rw [← hX]; exact ((h.b1.other (by omega) _).set _).other (by omega) _
  have x2 : Boxed X (w.heap.size + 2) 26 (.int .i64 0) := by rw [← hX]; exact ((h.b2.other (by omega) _).other (by omega) _).set _
  have hr : X.ownsRow (w.heap.size + 8) 5 1 v out.length (nums .u8 out) := by
    rw [← hX]
    exact ownsRow_setCell_below (ownsRow_setCell_below (ownsRow_setCell_below h.row (by simp) _) (by simp) _) (by simp) _
  have hd : X.heap[D]? = some (.deferred (some [])) := k.same _ _ hK rfl
  have key : ∀ B t v, Boxed X B t v → Boxed (X.putObj D (.deferred none)) B t v := by
    intro B t v hb
    refine (World.putObj_heap_other (fun e => ?_)).trans hb
    subst e
    unfold Boxed at hb
    rw [hd] at hb
    cases hb
  exact ⟨hd, (key _ _ _ x0).cell, (key _ _ _ x1).cell, (key _ _ _ x2).cell, ownsRow_putObj (row_base hr (by omega)) _ hd rfl, b.trans (belowK_b (w := w) (Nat.le_refl _) _ D _ _ (by omega) hd rfl rfl)⟩
theorem load_box {V : World} {B ty : Nat} {v : Value} (hc : V.cell? ⟨B, 0, none⟩ = some v) (hu : (Tryd.prog.underlying ty).map TypeDesc.isRow = some false) : (loadVar ty ⟨B, 0, none⟩).run Tryd.prog V = .ok v V := by
  obtain ⟨d, hd, hr⟩ := Option.map_eq_some_iff.1 hu
  have hagg : (isAgg ty).run Tryd.prog V = .ok false V := by
    unfold isAgg
    cases d <;> first | (simp [TypeDesc.isRow] at hr; done) | simp [hd, underlying]
  unfold loadVar
  simp [hagg, hc]
theorem results_c3 {fn : Func} {p0 p1 p2 t0 t1 t2 : Nat} {tmps : Array Value} {V : World} {B0 B1 B2 : Nat} {v0 v1 v2 : Value} (h : fn.results = #[.cell p0 t0, .cell p1 t1, .cell p2 t2])
    (e0 : tmps.getD p0 undef = .pointer (some ⟨B0, 0, none⟩)) (e1 : tmps.getD p1 undef = .pointer (some ⟨B1, 0, none⟩)) (e2 : tmps.getD p2 undef = .pointer (some ⟨B2, 0, none⟩))
    (l0 : (loadVar t0 ⟨B0, 0, none⟩).run Tryd.prog V = .ok v0 V) (l1 : (loadVar t1 ⟨B1, 0, none⟩).run Tryd.prog V = .ok v1 V) (l2 : (loadVar t2 ⟨B2, 0, none⟩).run Tryd.prog V = .ok v2 V) :
    (results fn tmps).run Tryd.prog V = .ok (.tuple #[v0, v1, v2]) V := by
  have q0 : tmps[p0]?.getD undef = .pointer (some ⟨B0, 0, none⟩) := by simpa using e0
  have q1 : tmps[p1]?.getD undef = .pointer (some ⟨B1, 0, none⟩) := by simpa using e1
  have q2 : tmps[p2]?.getD undef = .pointer (some ⟨B2, 0, none⟩) := by simpa using e2
  simp [results, h, q0, q1, q2, asAddr, l0, l1, l2]
theorem pbad_of {w V : World} {v : Value} {out : List Int} {n : Int} (h : PSt w v out n V) (V' : World)
    (hV : V'.heap = (((V.setCell ⟨w.heap.size, 0, none⟩ (.slice none 0 0)).setCell ⟨w.heap.size + 1, 0, none⟩ (.int .i64 n)).setCell ⟨w.heap.size + 2, 0, none⟩ (.int .i64 5)).heap ∧ V'.os = V.os ∧ V'.tape = V.tape ∧ V'.output = V.output) :
    KeepsOthers V V' ∧ PBad w n V' := by
  obtain ⟨X, hX⟩ : ∃ X, ((V.setCell ⟨w.heap.size, 0, none⟩ (.slice none 0 0)).setCell ⟨w.heap.size + 1, 0, none⟩ (.int .i64 n)).setCell ⟨w.heap.size + 2, 0, none⟩ (.int .i64 5) = X := ⟨_, rfl⟩
  have k : KeepsOthers V X := by rw [← hX]; exact ((KeepsOthers.setCell _ _ _).trans (KeepsOthers.setCell _ _ _)).trans (KeepsOthers.setCell _ _ _)
  have b : Below w.heap.size w X := by
    rw [← hX]
    exact ((h.below.setCell (p := ⟨w.heap.size, 0, none⟩) (by simp) _).setCell (p := ⟨w.heap.size + 1, 0, none⟩) (by simp) _).setCell (p := ⟨w.heap.size + 2, 0, none⟩) (by simp) _
  have x0 : Boxed X w.heap.size 22 (.slice none 0 0) := by rw [← hX]; exact ((h.b0.set _).other (by omega) _).other (by omega) _
  have x1 : Boxed X (w.heap.size + 1) 3 (.int .i64 n) := by rw [← hX]; exact ((h.b1.other (by omega) _).set _).other (by omega) _
  have x2 : Boxed X (w.heap.size + 2) 26 (.int .i64 5) := by rw [← hX]; exact ((h.b2.other (by omega) _).other (by omega) _).set _
  have xo : X.os = V.os ∧ X.tape = V.tape ∧ X.output = V.output := by rw [← hX]; exact ⟨rfl, rfl, rfl⟩
  have xs : w.heap.size + 8 ≤ X.heap.size := Nat.le_trans h.size k.size
  rw [hX] at hV
  unfold PBad Boxed
  rw [hV.1]
  refine ⟨⟨by rw [hV.1]; exact k.size, fun j o hj ho => by rw [hV.1]; exact k.same j o hj ho⟩, ⟨⟨x0, x1⟩, x2⟩, ⟨?_, ?_, ?_, by rw [hV.1]; exact b.size, fun j hj => by rw [hV.1]; exact b.block j hj⟩, xs⟩
  · rw [hV.2.1]; exact h.below.os
  · rw [hV.2.2.1]; exact h.below.tape
  · rw [hV.2.2.2]; exact h.below.output

set_option maxRecDepth 100000 in
set_option maxHeartbeats 1000000 in
theorem parse_calls (s : ByteArray) (w : World) (hlen : s.size ≤ 100000) (hG : GlobP w) : Calls Tryd.prog 37 #[.string s] w (ParsePost w (parseS s)) := by
  have HG := Lib.hid hG
  have HL := Lib.hid hlen
  clear hG hlen
  obtain ⟨i0, hi, hz0, hz1, hz2⟩ := info_parts info5
  refine (callsIn_wide (n := 6)).1 ?_
  refine callsIn_of_wp_marks Tryd.func37 rfl trivial ?_ rfl
  simp only [Tryd.ntmps37, List.size_toArray, List.length_cons, List.length_nil, Nat.reduceAdd, Nat.reduceSub, Array.replicate_succ, Array.replicate_zero, List.push_toArray, List.append_toArray, List.nil_append, List.cons_append]
  refine wpIn_wide.2 ?_
  go_wp2_with (first | (go_at_call 61; refine (SplitSeq_calls _ _).mono ?_; rintro e w1 ⟨rfl, rfl⟩) | fail)
  simp only [Nat.add_assoc, Nat.reduceAdd]
  obtain ⟨W0, hW0⟩ : ∃ W0, (((((((w.alloc (Obj.cells #[Value.slice none 0 0] 22)).alloc (Obj.cells #[Value.int IntKind.i64 0] 3)).alloc (Obj.cells #[Value.int IntKind.i64 0] 26)).alloc
    (Obj.cells #[Value.slice none 0 0] 22)).alloc (Obj.cells #[Value.int IntKind.i64 0] 3)).alloc (Obj.cells #[Value.string s] 9)).alloc (Obj.cells #[Value.string { data := #[10] }] 9)).alloc (Obj.cells #[Value.int IntKind.i64 0] 3) = W0 := ⟨_, rfl⟩
  have hz : W0.heap.size = w.heap.size + 8 := by rw [← hW0]; simp
  have hB0 : Below w.heap.size w W0 := by
    rw [← hW0]
    exact (((((((((Below.refl _ w).alloc (Nat.le_refl _) _).alloc (by simp) _).alloc (by simp; omega) _).alloc (by simp; omega) _).alloc (by simp; omega) _).alloc (by simp; omega) _).alloc (by simp; omega) _).alloc (by simp; omega) _)
  have zz : (Boxed W0 w.heap.size 22 (.slice none 0 0) ∧ Boxed W0 (w.heap.size + 1) 3 (.int .i64 0) ∧ Boxed W0 (w.heap.size + 2) 26 (.int .i64 0) ∧ Boxed W0 (w.heap.size + 3) 22 (.slice none 0 0)) ∧
      Boxed W0 (w.heap.size + 4) 3 (.int .i64 0) ∧ Boxed W0 (w.heap.size + 5) 9 (.string s) ∧ Boxed W0 (w.heap.size + 6) 9 (.string ⟨#[10]⟩) ∧ Boxed W0 (w.heap.size + 7) 3 (.int .i64 0) := by
    rw [← hW0]
    unfold Boxed
    simp [heap_alloc_eq, Array.getElem_push, Nat.add_assoc]
  have HB0 := Lib.hid hB0
  have HZ := Lib.hid hz
  obtain ⟨⟨z0, z1, z2, z3⟩, z4, z5, z6, z7⟩ := zz
  rw [hW0]
  clear hW0
  have h0 := And.intro (And.intro (And.intro (⟨_, z3, World.ownsRow_nil _ _ _ _, trivial⟩ : ∃ v, Boxed W0 (w.heap.size + 3) 22 v ∧ W0.ownsRow (w.heap.size + 8) 5 1 v (outV ([] : List (LineOf s))).length (nums .u8 (outV ([] : List (LineOf s)))) ∧ True)
    (show Boxed W0 (w.heap.size + 4) 3 (.int .i64 (([] : List (LineOf s)).length : Nat)) from z4)) (And.intro (And.intro z0 z1) z2)) (And.intro (And.intro hB0 (Nat.le_of_eq hz.symm)) (show (outS (lvals ([] : List (LineOf s)))).isSome from rfl))
  have HZ3 := Lib.hid z3
  have HZ5 := Lib.hid z5
  refine (wpIn_wide (n := 6)).1 ?_
  refine rangeFunc_w rfl (by omega) (gf := 143) (lb := #[.pointer (some ⟨w.heap.size + 6, 0, none⟩), .pointer (some ⟨w.heap.size + 5, 0, none⟩), .pointer (some ⟨w.heap.size + 7, 0, none⟩)]) rfl trivial (enters_of Tryd.func143 (by kernel_rfl) rfl)
    (split_iter s (by have := HL.out; omega) _ (by omega) (w.heap.size + 5) (w.heap.size + 6) (w.heap.size + 7) (by omega) (by omega) W0 z5 z6 z7) (by omega) KpS.trans (fun W l o o' h1 h2 h3 h4 => KpS.put _ W l o o' h1 h2 h3 h4) (Below.refl _ _) (fun _ => rfl)
    (fun pre W => (((∃ v, Boxed W (w.heap.size + 3) 22 v ∧ W.ownsRow (w.heap.size + 8) 5 1 v (outV pre).length (nums .u8 (outV pre)) ∧ True) ∧ Boxed W (w.heap.size + 4) 3 (.int .i64 pre.length)) ∧
      (Boxed W w.heap.size 22 (.slice none 0 0) ∧ Boxed W (w.heap.size + 1) 3 (.int .i64 0)) ∧ Boxed W (w.heap.size + 2) 26 (.int .i64 0)) ∧ (Below w.heap.size w W ∧ w.heap.size + 8 ≤ W.heap.size) ∧ (outS (lvals pre)).isSome)
    (fun c pre W => (((Boxed W w.heap.size 22 (.slice none 0 0) ∧ Boxed W (w.heap.size + 1) 3 (.int .i64 pre.length)) ∧ Boxed W (w.heap.size + 2) 26 (.int .i64 5)) ∧ (Below w.heap.size w W ∧ w.heap.size + 8 ≤ W.heap.size)) ∧
      c = .ret ∧ ∃ p x out, lvals pre = p ++ [x] ∧ outS p = some out ∧ lineO x = none)
    ?hI ?hIx ?hIb ?hIxb h0 (fun x b W => True) (fun _ _ _ _ _ _ _ _ _ => trivial) (fun x b a => (a.setIfInBounds 13 (.string x.1)).setIfInBounds 7 (.string x.1)) ?assign ?body ?done ?stop
  case hI =>
    exact OwnFrom.and (OwnFrom.and (OwnFrom.and (Own.from (holdsRow_own (w.heap.size + 8) (w.heap.size + 3) 22 5 1 (fun pre : List (LineOf s) => (outV pre).length) (fun pre => nums .u8 (outV pre)) (fun _ _ => True)) _) (Own.from (boxed_own _ _ (fun pre : List (LineOf s) => .int .i64 pre.length)) _))
      (OwnFrom.and (OwnFrom.and (Own.from (boxed_own _ _ _) _) (Own.from (boxed_own _ _ _) _)) (Own.from (boxed_own _ _ _) _))) (OwnFrom.and (OwnFrom.and (ownFrom_below (Nat.le_refl _) (by omega)) (fun s A B row hs hg hr => Nat.le_trans hs hg.size)) (ownFrom_pure _ _))
  case hIx =>
    exact fun c => OwnFrom.and (OwnFrom.and (OwnFrom.and (OwnFrom.and (Own.from (boxed_own _ _ _) _) (Own.from (boxed_own _ _ (fun pre : List (LineOf s) => .int .i64 pre.length)) _)) (Own.from (boxed_own _ _ _) _)) (OwnFrom.and (ownFrom_below (Nat.le_refl _) (by omega)) (fun s A B row hs hg hr => Nat.le_trans hs hg.size))) (ownFrom_pure _ _)
  case hIb =>
    rintro pre A v ⟨⟨⟨⟨u, b1, hr, -⟩, b2⟩, ⟨b3, b4⟩, b5⟩, ⟨hb, hs⟩, ho⟩
    exact ⟨⟨⟨⟨u, b1.other (by omega) _, ownsRow_setCell_below hr (a := ⟨w.heap.size + 5, 0, none⟩) (by simp) _, trivial⟩, b2.other (by omega) _⟩, ⟨b3.other (by omega) _, b4.other (by omega) _⟩, b5.other (by omega) _⟩, ⟨hb.setCell (p := ⟨w.heap.size + 5, 0, none⟩) (by simp) _, by simpa [World.setCell] using hs⟩, ho⟩
  case hIxb =>
    rintro c pre A v ⟨⟨⟨⟨b3, b4⟩, b5⟩, hb, hs⟩, ho⟩
    exact ⟨⟨⟨⟨b3.other (by omega) _, b4.other (by omega) _⟩, b5.other (by omega) _⟩, hb.setCell (p := ⟨w.heap.size + 5, 0, none⟩) (by simp) _, by simpa [World.setCell] using hs⟩, ho⟩
  case assign =>
    rintro q pre x W K hI hK
    dsimp only
    gi_wp2
    exact hK 0 W (KeepsFrom.refl _ _) (KpS.below (Below.refl _ _)) hI trivial
  case body =>
    rintro q pre x b W hq ⟨r, hr⟩ ⟨⟨⟨⟨v, bv, hrow, -⟩, bn⟩, ⟨b1, b2⟩, b3⟩, ⟨hb, hs⟩, ho⟩ - hlt
    obtain ⟨out, hout⟩ := Option.isSome_iff_exists.1 ho
    have hov : outV pre = out := by rw [outV, hout]; rfl
    rw [hov] at hrow
    have P0 : PSt w v out pre.length W := ⟨bv, hrow, bn, b1, b2, b3, hb, hs⟩
    have hol := outS_len (lvals pre) [] out hout
    have hN := linesB_len s
    have hL := HL.out
    rw [lvals_len] at hol
    simp only [List.length_nil, Nat.zero_add] at hol
    have hn : (pre.length : Int) ≤ 100000 := by omega
    have hxs := x.2
    have c4 := bn.cell
    have f4 := bn.frozen
    have P1 := P0.count ((pre.length : Int) + 1)
    have hk1 : KeepsOthers W (W.setCell ⟨w.heap.size + 4, 0, none⟩ (.int .i64 ((pre.length : Int) + 1))) := KeepsOthers.setCell _ _ _
    have hp1 : KpS (w.heap.size + 5) (w.heap.size + 6) (w.heap.size + 7) W (W.setCell ⟨w.heap.size + 4, 0, none⟩ (.int .i64 ((pre.length : Int) + 1))) := KpS.set _ _ _ (by omega) (by omega) (by omega)
    have HF : Hid (∀ V, Calls Tryd.prog 62 #[.string x.1, .func (.func 63) #[] #[]] V fun e w' => ∃ A, e = .returned (.slice (some ⟨A, 0, none⟩) (fieldsB x.1).length (fieldsB x.1).length) ∧ Words w' A (fieldsB x.1).length (fieldsB x.1) ∧ Below V.heap.size V w') := by
      refine Lib.hid fun V => (Tryd.strings_FieldsFunc_runes 63 #[] (enters_of Tryd.func63 (by kernel_rfl) rfl) isSp x.1 V (by omega) (parse1_gives V)).mono ?_
      rintro e w' ⟨A, rfl, h1, h2, h3⟩
      rw [fields_eq] at h2 ⊢
      exact ⟨A, rfl, words_of h2, h3⟩
    have hfl := fieldsB_len x.1
    have hfz := fieldsB_size x.1
    have hlo : lineO x.1 = if fieldsB x.1 = [] then some [] else lineS ((fieldsB x.1).map fun y => y.data.toList) := rfl
    obtain ⟨fs, hfs⟩ : ∃ fs, fieldsB x.1 = fs := ⟨_, rfl⟩
    rw [hfs] at HF hfl hfz hlo
    have HP1 := Lib.hid P1
    have HK1 := Lib.hid hk1
    have HKP1 := Lib.hid hp1
    have HOUT := Lib.hid hout
    have HOL := Lib.hid hol
    have HQ := Lib.hid hr
    have HLO := Lib.hid hlo
    have hlo' := hlo
    have HLT := Lib.hid hlt
    clear bv hrow bn b1 b2 b3 hb hs ho hov P0 P1 hk1 hp1 hout hol hN hr hfs hlo hlt z0 z1 z2 z4 z6 z7 h0
    by_cases hne : fs = []
    · subst hne
      have HF : Hid (∀ V, Calls Tryd.prog 62 #[.string x.1, .func (.func 63) #[] #[]] V fun e w' => ∃ A, e = .returned (.slice (some ⟨A, 0, none⟩) 0 0) ∧ Words w' A 0 [] ∧ Below V.heap.size V w') := HF
      clear hfl hfz hlo'
      gi_wp2_with (first | (refine ⟨trivial, ?_⟩; gi_at_call 62; refine (CallsIn.inRound q (callsIn_wide.2 (HF.out _))).mono ?_; rintro e V1 ⟨A, rfl, hA, hv1⟩; have HV1 := Lib.hid hv1; have HA := Lib.hid hA; clear hv1 hA) | fail)
      have P2 := (HP1.out).later HV1.out
      have hx : lineO x.1 = some [] := HLO.out
      have ho2 : outS (lvals (pre ++ [x])) = some out := by rw [lvals_snoc, outS_snoc, HOUT.out, outF_good _ _ _ hx, List.append_nil]
      have hov : outV (pre ++ [x]) = out := by rw [outV, ho2]; rfl
      refine ⟨(HK1.out.trans (others_below HV1.out)).from _, HKP1.out.trans (KpS.below HV1.out), ⟨⟨⟨v, P2.bv, ?_, trivial⟩, ?_⟩, ⟨P2.b0, P2.b1⟩, P2.b2⟩, ⟨P2.below, P2.size⟩, by rw [ho2]; rfl⟩
      · rw [hov]; exact P2.row
      · rw [List.length_append]; exact P2.bn
    · have hk0 : 0 < fs.length := List.length_pos_iff.2 hne
      have hkb : (fs.length : Int) ≤ 1000000 := by omega
      have hk1 : (1 : Int) ≤ fs.length := by omega
      rw [if_neg hne] at hlo'
      have HLn : Hid (∀ V A, Words V A fs.length fs → GlobP V → Calls Tryd.prog 64 #[.slice (some ⟨A, 0, none⟩) fs.length fs.length] V (LinePost V (lineO x.1))) := by
        refine Lib.hid fun V A h1 h2 => ?_
        rw [hlo']
        exact line_calls A fs V h1 hne (by omega) (fun y hy => by have := hfz y hy; omega) h2
      have hlen3 := lineO_len x.1
      have hpos : ∀ bs, lineO x.1 = some bs → 1 ≤ bs.length := fun bs h => (lineS_len _ _ (hlo' ▸ h)).1
      clear hfz hlo'
      cases ho : lineO x.1 with
      | none =>
        rw [ho] at HLn
        clear hlen3 hpos
        have hbad : Hid (∃ p x' out, lvals (pre ++ [x]) = p ++ [x'] ∧ outS p = some out ∧ lineO x' = none) := ⟨_, _, _, lvals_snoc _ _, HOUT.out, ho⟩
        gi_wp2_with (first | (refine ⟨trivial, ?_⟩; gi_at_call 62; refine (CallsIn.inRound q (callsIn_wide.2 (HF.out _))).mono ?_; rintro e V1 ⟨A, rfl, hA, hv1⟩; have HV1 := Lib.hid hv1; have HA := Lib.hid hA; clear hv1 hA) | (refine ⟨trivial, ?_⟩; gi_at_call 64; refine (CallsIn.inRound q (callsIn_wide.2 (HLn.out _ _ HA.out (HG.out.below ((HP1.out.later HV1.out).below))))).mono ?_; rintro e V2 ⟨lv, rfl, hown, hv2⟩; have P2 := (HP1.out.later HV1.out).later hv2; have y0 := P2.b0; have y1 := P2.b1; have y2 := P2.b2; have c0 := y0.cell; have c1 := y1.cell; have c2 := y2.cell; have d0 := y0.frozen; have d1 := y1.frozen; have d2 := y2.frozen; have cn := P2.bn.cell; have HP2 := Lib.hid P2; have HV2 := Lib.hid hv2; clear P2 hv2 y0 y1 y2 hown) | fail)
        gi_cut [28] from 28 (fun s V3 => s = .int .i64 ((pre.length : Int) + 1) ∧ KeepsOthers V2 V3 ∧ PBad w ((pre.length : Int) + 1) V3)
        case first =>
          gi_region_with (fail)
          all_goals (gi_wp2_with fail; gi_meet; exact ⟨rfl, pbad_of HP2.out _ ⟨rfl, rfl, rfl, rfl⟩⟩)
        case rest =>
          obtain ⟨rfl, hk3, hbd⟩ := hcut
          gi_wp2_with fail
          refine ⟨(((HK1.out.trans (others_below HV1.out)).trans (others_below HV2.out)).trans hk3).from _, ?_, rfl, hbad.out⟩
          rw [List.length_append]
          exact hbd
      | some bs =>
        have hb3 := hlen3 bs ho
        have hb1 := hpos bs ho
        rw [ho] at HLn
        clear hlen3 hpos
        have hgood : Hid (outS (lvals (pre ++ [x])) = some (out ++ bs)) := by
          rw [lvals_snoc, outS_snoc, HOUT.out, outF_good _ _ _ ho]
          exact Lib.hid rfl
        have hol := HOL.out
        have hn' : pre.length ≤ 100001 := by omega
        have HN := Lib.hid hn'
        clear hn' hol
        gi_wp2_with (first | (refine ⟨trivial, ?_⟩; gi_at_call 62; refine (CallsIn.inRound q (callsIn_wide.2 (HF.out _))).mono ?_; rintro e V1 ⟨A, rfl, hA, hv1⟩; have HV1 := Lib.hid hv1; have HA := Lib.hid hA; clear hv1 hA) | (refine ⟨trivial, ?_⟩; gi_at_call 64; go_loud (refine (CallsIn.inRound q (callsIn_wide.2 (HLn.out _ _ HA.out (HG.out.below ((HP1.out.later HV1.out).below))))).mono ?_; rintro e V2 ⟨lv, rfl, hown, hv2⟩); have hown2 := hown bs rfl; obtain ⟨lg, lc, rfl⟩ := own_form hown2 (by omega); have P2 := (HP1.out.later HV1.out).later hv2; have c3 := P2.bv.cell; have HP2 := Lib.hid P2; have HV2 := Lib.hid hv2; have HW2 := Lib.hid hown2; clear P2 hv2 hown hown2) | (gi_at_builtin; refine wpListIn_append_own _ rfl _ _ 22 rfl (w.heap.size + 8) 5 i0 (.int .u8 0) 1 1 Tryd.underlying22 hi hz0 hz1 hz2 rfl (by decide) _ _ _ rfl HP2.out.row ⟨lg, 0, none⟩ bs.length lc (nums .u8 bs) rfl (by simp [nums]) (HW2.out.cells rfl) (by intro u hu; obtain ⟨y, -, rfl⟩ := List.mem_map.1 hu; rfl) (by have := HN.out; have := HOL.out; unfold maxLen; omega) (by have := HN.out; have := HOL.out; omega) HP2.out.size ?_; intro v2 w4 hown4 hgrow4 _; obtain ⟨g4, cap4, rfl⟩ := own_form hown4 (by omega); obtain ⟨bw, P5⟩ := HP2.out.append hgrow4 hown4; have cw := bw.cell; have fw := bw.frozen; have HP5 := Lib.hid P5; have HO4 := Lib.hid (app_others2 HP2.out.row hgrow4); have HK4 := Lib.hid (KpS.app (Bs := w.heap.size + 5) (Bp := w.heap.size + 6) (Bv := w.heap.size + 7) HP2.out.row hgrow4); clear P5 bw hown4 hgrow4) | fail)
        have hov : outV (pre ++ [x]) = out ++ bs := by rw [outV, hgood.out]; rfl
        have P5 := HP5.out
        refine ⟨((((HK1.out.trans (others_below HV1.out)).trans (others_below HV2.out)).trans HO4.out).trans (KeepsOthers.setCell _ _ _)).from _,
          ((((HKP1.out.trans (KpS.below HV1.out)).trans (KpS.below HV2.out)).trans HK4.out).trans (KpS.set _ _ _ (by omega) (by omega) (by omega))), ⟨⟨⟨_, P5.bv, ?_, trivial⟩, ?_⟩, ⟨P5.b0, P5.b1⟩, P5.b2⟩, ⟨P5.below, P5.size⟩, by rw [hgood.out]; rfl⟩
        · rw [hov]; exact P5.row
        · rw [List.length_append]; exact P5.bn
  case done =>
    rintro D ys W hD hys ⟨⟨⟨⟨v, bv, hrow, -⟩, bn⟩, ⟨b1, b2⟩, b3⟩, ⟨hb, hs⟩, ho⟩ hK
    obtain ⟨out, hout⟩ := Option.isSome_iff_exists.1 ho
    have hov : outV ys = out := by rw [outV, hout]; rfl
    rw [hov] at hrow
    have hps : parseS s = (out, 0, 0) := parse_all s out (hys ▸ hout)
    have c0 := b1.cell
    have c1 := b2.cell
    have c2 := b3.cell
    have c3 := bv.cell
    have d0 := b1.frozen
    have d1 := b2.frozen
    have d2 := b3.frozen
    have HPS := Lib.hid hps
    have HP := Lib.hid (⟨bv, hrow, bn, b1, b2, b3, hb, hs⟩ : PSt w v out ys.length W)
    have HK := Lib.hid hK
    clear bv hrow bn b1 b2 b3 hb hs ho hov hout hps hK z0 z1 z2 z4 z6 z7 h0
    have hvv : v = .slice none 0 0 ∨ ∃ g cap, v = .slice (some ⟨g, 0, none⟩) out.length cap := by
      rcases HP.out.row.2 with ⟨e, _⟩ | ⟨g, cap, _, e, _⟩
      · exact .inl e
      · exact .inr ⟨g, cap, e⟩
    rcases hvv with rfl | ⟨vg, vc, rfl⟩
    all_goals
      go_wp2_with fail
      obtain ⟨k1, k2, k3, k4, k5, k6⟩ := pdone HP.out HK.out (by have := HZ.out; omega) _ rfl
      refine ⟨by simp, .inl ⟨_, _, rfl, run_takeDeferred k1, ?_⟩⟩
      refine ⟨_, results_c3 (fn := Tryd.f37) rfl rfl rfl rfl (load_box k2 (by kernel_rfl)) (load_box k3 (by kernel_rfl)) (load_box k4 (by kernel_rfl)), ?_⟩
      rw [ParsePost, HPS.out]
      exact ⟨_, rfl, k5, k6⟩
  case stop =>
    rintro D c pre W hD hpre ⟨⟨⟨⟨b1, b2⟩, b3⟩, hb, hs⟩, rfl, p, x, out, e1, e2, e3⟩ hK
    rw [e1] at hpre
    have hps := parse_bad s p x out e2 e3 hpre
    rw [← e1, lvals_len] at hps
    gi_wp2_with fail
    have hk := KeepsOthers.refl W
    have key : ∀ B t v, Boxed W B t v → Boxed (W.putObj D (.deferred none)) B t v := by
      intro B t v hb
      refine (World.putObj_heap_other (fun e => ?_)).trans hb
      subst e
      unfold Boxed at hb
      rw [hK] at hb
      cases hb
    refine ⟨by simp, .inl ⟨_, _, rfl, run_takeDeferred hK, ?_⟩⟩
    refine ⟨_, results_c3 (fn := Tryd.f37) rfl rfl rfl rfl (load_box (key _ _ _ b1).cell (by kernel_rfl)) (load_box (key _ _ _ b2).cell (by kernel_rfl)) (load_box (key _ _ _ b3).cell (by kernel_rfl)), ?_⟩
    rw [ParsePost, hps]
    exact ⟨_, rfl, World.ownsRow_nil _ _ _ _, hb.trans (belowK_b (w := w) (Nat.le_refl _) _ D _ _ (by omega) hK rfl rfl)⟩
end Go.Proofs.YtkphijabhoppnaaDoor
