/- Bytecodes as text (brazier/code.Text); the chapter's examples. -/
import Derived.Test.YtkphijabhoppnaaDoorBd
import Derived.Lib.Strings
import Derived.Lib.Slices
import Derived.Lib.Walk
import Derived.Lib.Builder
import Derived.Lib.AppendStr
import Derived.Lib.UnsafeStr
import Derived.Lib.MakeNoZero
import Derived.Laws.Externs
import Derived.Lib.ItoaLen
import Derived.Lib.AppendIntMem
import Derived.Lib.QuietBelow
namespace Go.Proofs.YtkphijabhoppnaaDoor
open Go.RowKit
set_option linter.unusedSimpArgs false
set_option linter.unusedVariables false

/-- Whatever is neither the builder's block nor a row of bytes stands as it stood. -/
def OK5 (b : Nat) (w w' : World) : Prop :=
  w.heap.size ≤ w'.heap.size ∧ ∀ (k : Nat) (o : Obj), w.heap[k]? = some o → k ≠ b → (∀ cs fr, o ≠ Obj.cells cs 5 fr) → w'.heap[k]? = some o
theorem OK5.refl (b : Nat) (w : World) : OK5 b w w := ⟨Nat.le_refl _, fun _ _ h _ _ => h⟩
theorem OK5.trans {b : Nat} {u v w : World} (h : OK5 b u v) (k : OK5 b v w) : OK5 b u w := ⟨Nat.le_trans h.1 k.1, fun i o hi hb hc => k.2 i o (h.2 i o hi hb hc) hb hc⟩
theorem OK5.set (b i : Nat) (w : World) (v : Value) : OK5 b w (w.setCell ⟨b, i, none⟩ v) :=
  ⟨by simp [World.setCell], fun k o h hb _ => (heap_setCell_other w ⟨b, i, none⟩ k v hb).trans h⟩

theorem sizeB : (Tryd.prog.info? 113).map (fun i => i.size) = some 2 := by kernel_rfl

set_option maxHeartbeats 1000000 in
set_option maxRecDepth 100000 in
theorem copyCheck_used (b : Nat) (w : World) (h0 : w.cell? ⟨b, 0, none⟩ = some (.pointer (some ⟨b, 0, none⟩))) :
    Calls Tryd.prog 86 #[.pointer (some ⟨b, 0, none⟩)] w fun e w' => e = .returned (.tuple #[]) ∧ w' = w := by
  obtain ⟨j, hj, _⟩ := Option.map_eq_some_iff.1 sizeB
  go_enter Tryd.func86, Tryd.ntmps86
  go_wp2
  rw [Lib.run_neq_ptr_same w _ Tryd.underlying111 hj]
  go_wp2
  go_end0
  exact ⟨rfl, rfl⟩

set_option maxHeartbeats 1000000 in
set_option maxRecDepth 100000 in
theorem copyCheck_fresh (b : Nat) (w : World) (h0 : w.cell? ⟨b, 0, none⟩ = some (.pointer none)) (hsh : w.shape? b = some (113, 2)) (hfz : w.frozen? ⟨b, 0, none⟩ = false) :
    Calls Tryd.prog 86 #[.pointer (some ⟨b, 0, none⟩)] w fun e w' => e = .returned (.tuple #[]) ∧ w' = w.setCell ⟨b, 0, none⟩ (.pointer (some ⟨b, 0, none⟩)) := by
  obtain ⟨j, hj, hjs⟩ := Option.map_eq_some_iff.1 sizeB
  go_enter Tryd.func86, Tryd.ntmps86
  go_wp2
  rw [Lib.run_to_unsafe w ⟨b, 0, none⟩ Tryd.underlying111 Tryd.underlying204 hj (by rw [hjs]; decide) hsh (Nat.zero_lt_succ 1)]
  simp only [Result.andThen]
  rw [Oper.upon_value]
  go_wp2
  rw [run_callFunc_extern Tryd.func133 (by kernel_rfl) (by kernel_rfl) (by kernel_rfl) (e := Extern.AbiNoEscape.same) (by kernel_rfl)]
  rw [Lib.run_noEscape]
  simp only [Result.andThen]
  rw [Oper.upon_value]
  go_wp2
  rw [Lib.run_from_unsafe w ⟨b, 0, none⟩ Tryd.underlying204 Tryd.underlying111 hj hsh (by kernel_rfl)]
  simp only [Result.andThen]
  rw [Oper.upon_value]
  go_wp2
  go_end0
  exact ⟨rfl, rfl⟩

theorem copyCheck_calls (B b : Nat) (bs : List Value) (w : World) (h : Lib.IsBuilder 113 5 B b bs w) :
    Calls Tryd.prog 86 #[.pointer (some ⟨b, 0, none⟩)] w fun e w' => e = .returned (.tuple #[]) ∧ (Lib.BuilderAt 113 5 B b (.pointer (some ⟨b, 0, none⟩)) bs w' ∧ Below B w w' ∧ OK5 b w w') := by
  rcases h with h | h
  · refine (copyCheck_fresh b w h.cell0 h.shape h.frozen0).mono ?_
    rintro e w' ⟨rfl, rfl⟩
    exact ⟨rfl, h.used _, (Below.refl B w).setCell (p := ⟨b, 0, none⟩) h.1 _, OK5.set _ _ _ _⟩
  · refine (copyCheck_used b w h.cell0).mono ?_
    rintro e w' ⟨rfl, rfl⟩
    exact ⟨rfl, h, Below.refl B _, OK5.refl _ _⟩

set_option maxHeartbeats 1000000 in
set_option maxRecDepth 100000 in
theorem writeString_calls (B b : Nat) (bs : List Value) (s : ByteArray) (w : World) (h : Lib.IsBuilder 113 5 B b bs w) (hlen : bs.length + s.size ≤ 140737488355328) (hBw : B ≤ w.heap.size) :
    Calls Tryd.prog 48 #[.pointer (some ⟨b, 0, none⟩), .string s] w fun e w' => e = .returned (.tuple #[.int .i64 s.size, .nilIface]) ∧ Lib.IsBuilder 113 5 B b (bs ++ Lib.strCells s) w' ∧ Below B w w' ∧ OK5 b w w' := by
  obtain ⟨i0, hi, hz0, hz1, hz2⟩ := info_parts info5
  go_enter Tryd.func48, Tryd.ntmps48
  go_wp2_with (go_at_call 86; refine (copyCheck_calls B b bs _ h).mono ?_)
  rintro e w1 ⟨rfl, h1, hb1, hk1⟩
  obtain ⟨hB, v, hbk, hown, hne⟩ := h1
  have HK1 := Lib.hid hk1
  clear hk1
  have c0 : w1.cell? ⟨b, 0, none⟩ = some (.pointer (some ⟨b, 0, none⟩)) := by rw [Lib.cell_of_heap hbk]; rfl
  have c1 : w1.cell? ⟨b, 1, none⟩ = some v := by rw [Lib.cell_of_heap hbk]; rfl
  go_wp2_with (at_builtin; refine Lib.wpList_append_own_string _ rfl _ _ 22 9 rfl B 5 i0 Tryd.underlying22 Tryd.underlying9 hi hz0 hz1 hz2 _ _ _ rfl hown s rfl ?c3 ?c4 ?c5 ?_)
  case c3 => unfold maxLen; omega
  case c4 => omega
  case c5 => have := hb1.size; omega
  intro v' w2 hown' hgrow _
  have hlt : b < w1.heap.size := by
    rcases Nat.lt_or_ge b w1.heap.size with h' | h'
    · exact h'
    · simp [Array.getElem?_eq_none h'] at hbk
  have hb2 : w2.heap[b]? = some (.cells #[.pointer (some ⟨b, 0, none⟩), v] 113 (0, 0)) := by
    rw [hgrow.block b hlt (fun e => hne e.symm)]
    exact hbk
  have d0 : w2.cell? ⟨b, 0, none⟩ = some (.pointer (some ⟨b, 0, none⟩)) := by rw [Lib.cell_of_heap hb2]; rfl
  have d1 : w2.cell? ⟨b, 1, none⟩ = some v := by rw [Lib.cell_of_heap hb2]; rfl
  have f1 : w2.frozen? ⟨b, 1, none⟩ = false := Lib.frozen_of_heap hb2 1
  have hk2 : OK5 b w1 w2 := by
    refine ⟨hgrow.size, fun k o hk hnb hnc => (hgrow.block k (Array.getElem?_eq_some_iff.1 hk).1 fun e => ?_).trans hk⟩
    rcases hown.2 with ⟨rfl, _⟩ | ⟨g, cap, cur, rfl, _, hg, _⟩
    · simp [Value.ownBlock] at e
    · have : k = g := by simpa [Value.ownBlock] using e
      subst this
      rw [hk] at hg
      exact hnc _ _ (Option.some.inj hg)
  have HK2 := Lib.hid hk2
  clear hk2
  obtain ⟨ao, n', cap, rfl⟩ : ∃ ao n' cap, v' = .slice ao n' cap := by
    rcases hown'.2 with ⟨hv, _⟩ | ⟨g, cap, cur, hv, _⟩
    · exact ⟨_, _, _, hv⟩
    · exact ⟨_, _, _, hv⟩
  go_wp2
  go_ret2
  refine ⟨rfl, .inr ?_, ?_, (HK1.out.trans HK2.out).trans (OK5.set _ _ _ _)⟩
  · exact Lib.BuilderAt.put (T := 113) (e := 5) hB hb2 (bs' := bs ++ Lib.strCells s) (by simpa [Lib.strCells_length] using hown') (by decide)
  · exact (hb1.grown hgrow (by have := hb1.size; omega) (fun k hk => (hown.lt k hk).1)).setCell (p := ⟨b, 1, none⟩) hB _
end Go.Proofs.YtkphijabhoppnaaDoor
namespace Go.Proofs.YtkphijabhoppnaaDoor
open Go.RowKit Go.Shelf Go.Sort
open Go.Proofs.YtkphijabhoppnaaDoorW.PrintWords (grown_of_below nums)
set_option linter.unusedSimpArgs false
set_option linter.unusedVariables false
attribute [local go_sem] Oper.semAt_some

/-- A bytecode's line. -/
def tailT (r : Rd) : Nat → List UInt8
  | 0 => []
  | 4 => (32 :: Lib.itoa r.a) ++ (32 :: Lib.itoa r.b)
  | _ => 32 :: Lib.itoa r.a
def lineT (r : Rd) : List UInt8 := nmC r.code ++ (tailT r (opk r.code) ++ [10])
def textT (pre : List GOp) : List UInt8 := (pre.map fun x => lineT x.1.2).flatten
def textS (l : List Int) : List UInt8 × Int := if (placesS l).2 = 0 then (((opsL l).map fun x => lineT x.2).flatten, 0) else ([], (placesS l).2)

theorem below_grow {B : Nat} {a w : World} (h : Below B a w) (hB : B ≤ w.heap.size) (os : Array Obj) : Below B a (grow w os) :=
  h.trans ⟨rfl, rfl, rfl, by simp [grow], fun k hk => by simp [grow, Array.getElem?_append, show k < w.heap.size by omega]⟩
theorem itoa_calls (n : Int) (h0 : -9223372036854775808 ≤ n) (h1 : n ≤ 9223372036854775807) (w : World) (hG : Glob w) :
    Calls Tryd.prog 49 #[.int .i64 n] w fun e w' => e = .returned (.string ⟨(Lib.itoa n).toArray⟩) ∧ Below w.heap.size w w' := by
  refine (Tryd.strconv_Itoa n h0 h1 w hG.pw).mono ?_
  rintro e w' ⟨rfl, k, os, rfl⟩
  exact ⟨rfl, below_grow (below_drewN0 (Below.refl _ _) k) (Nat.le_refl _) os⟩

theorem isBuilder_below {B b : Nat} {bs : List Value} {w w' : World} (h : Lib.IsBuilder 113 5 B b bs w) (hb : Below w.heap.size w w') : Lib.IsBuilder 113 5 B b bs w' := by
  have go : ∀ {p : Value}, Lib.BuilderAt 113 5 B b p bs w → Lib.BuilderAt 113 5 B b p bs w' := by
    rintro p ⟨h1, v, h2, h3, h4⟩
    exact ⟨h1, v, row_kept hb h2, h3.kept (⟨hb.os, hb.tape, hb.output, hb.size, fun i hi _ => hb.block i hi⟩ : w.grownBy w' none) (by cases v.ownBlock <;> simp), h4⟩
  rcases h with h | h
  · exact .inl (go h)
  · exact .inr (go h)
theorem isBuilder_own {β : Type} (B b : Nat) (f : β → List Value) : Own (fun s W => Lib.IsBuilder 113 5 B b (f s) W) := fun s X Y row hs hg hr => by
  have go : ∀ {p : Value}, Lib.BuilderAt 113 5 B b p (f s) X → Lib.BuilderAt 113 5 B b p (f s) Y := by
    rintro p ⟨h1, v, h2, h3, h4⟩
    refine ⟨h1, v, row_own b (fun (_ : Unit) => #[p, v]) 113 () X Y row h2 hg hr, row_own2 B 5 1 (fun (_ : Unit) => v) (fun _ => (f s).length) (fun _ => f s) () X Y row h3 hg hr, h4⟩
  rcases hs with h | h
  · exact .inl (go h)
  · exact .inr (go h)
theorem OK5.of_below (b : Nat) {w w' : World} (h : Below w.heap.size w w') : OK5 b w w' := ⟨h.size, fun k o hk _ _ => row_kept h hk⟩
theorem OK5.others {b : Nat} {w w' : World} (h : OK5 b w w') {cs : Array Value} {t : TypeId} {fr : Nat × Nat} (hb : w.heap[b]? = some (Obj.cells cs t fr)) : KeepsOthers w w' :=
  ⟨h.1, fun k o hk hc => h.2 k o hk (fun e => by subst e; rw [hb] at hk; cases hk; simp [Obj.isCells] at hc) (fun cs fr e => by subst e; simp [Obj.isCells] at hc)⟩

/-- Within a round of Text: the builder, the box, and what stands. -/
structure TS (w1 W : World) (b0 Bx : Nat) (xs : Array Value) (bs : List UInt8) (Wc : World) : Prop where
  bl : Lib.IsBuilder 113 5 b0 b0 (Lib.byteCells bs) Wc
  be : Below b0 w1 Wc
  ok : OK5 b0 W Wc
  bx : Wc.heap[Bx]? = some (Obj.cells xs 25 (0, 0))
  sz : b0 ≤ Wc.heap.size
theorem TS.below {w1 W : World} {b0 Bx : Nat} {xs : Array Value} {bs : List UInt8} {Wc Wd : World} (h : TS w1 W b0 Bx xs bs Wc) (hb : Below Wc.heap.size Wc Wd) : TS w1 W b0 Bx xs bs Wd :=
  ⟨isBuilder_below h.bl hb, h.be.trans (hb.mono h.sz), h.ok.trans (OK5.of_below _ hb), row_kept hb h.bx, Nat.le_trans h.sz hb.size⟩
theorem TS.write {w1 W : World} {b0 Bx : Nat} {xs : Array Value} {bs : List UInt8} {s : ByteArray} {Wc Wd : World} (h : TS w1 W b0 Bx xs bs Wc) (hne : Bx ≠ b0)
    (h1 : Lib.IsBuilder 113 5 b0 b0 (Lib.byteCells bs ++ Lib.strCells s) Wd) (h2 : Below b0 Wc Wd) (h3 : OK5 b0 Wc Wd) : TS w1 W b0 Bx xs (bs ++ s.data.toList) Wd :=
  ⟨by have e : Lib.byteCells (bs ++ s.data.toList) = Lib.byteCells bs ++ Lib.strCells s := by simp [Lib.byteCells, Lib.strCells]
      rw [e]; exact h1, h.be.trans h2, h.ok.trans h3, h3.2 Bx _ h.bx hne (by simp), Nat.le_trans h.sz h3.1⟩
theorem TS.cells {w1 W : World} {b0 Bx : Nat} {bs : List UInt8} {Wc : World} {x y z t : Value} (h : TS w1 W b0 Bx #[x, y, z, t] bs Wc) :
    Wc.cell? ⟨Bx, 0, none⟩ = some x ∧ Wc.cell? ⟨Bx, 1, none⟩ = some y ∧ Wc.cell? ⟨Bx, 2, none⟩ = some z :=
  ⟨(cell_of_row _ _ 0 _ _ _ h.bx).trans rfl, (cell_of_row _ _ 1 _ _ _ h.bx).trans rfl, (cell_of_row _ _ 2 _ _ _ h.bx).trans rfl⟩
theorem nm_len : ∀ n : Nat, n < 41 → (nmC n).length ≤ 8 := by decide +kernel
theorem line_len (x : GOp) : (lineT x.1.2).length ≤ 60 := by
  obtain ⟨⟨p, r⟩, ⟨h0, h1⟩, ⟨h2, h3⟩, ⟨h4, h5⟩, _⟩ := x
  replace h0 : 0 ≤ r.code := h0
  replace h1 : r.code ≤ 40 := h1
  replace h2 : -32768 ≤ r.a := h2
  replace h3 : r.a ≤ 32767 := h3
  replace h4 : -32768 ≤ r.b := h4
  replace h5 : r.b ≤ 32767 := h5
  dsimp only
  obtain ⟨n, hn⟩ := Int.eq_ofNat_of_zero_le h0
  have := nm_len n (by omega)
  have ha := Lib.itoa_length_le r.a (by omega) (by omega)
  have hb := Lib.itoa_length_le r.b (by omega) (by omega)
  unfold lineT
  rw [hn]
  rcases opk_le n with hk | hk | hk | hk | hk <;> rw [hk] <;> simp [tailT] <;> omega
theorem text_len : ∀ pre : List GOp, (textT pre).length ≤ 60 * pre.length
  | [] => by simp [textT]
  | x :: xs => by
    have := text_len xs
    have := line_len x
    simp only [textT, List.map_cons, List.flatten_cons, List.length_append, List.length_cons] at *
    omega
theorem textT_snoc (pre : List GOp) (x : GOp) : textT (pre ++ [x]) = textT pre ++ lineT x.1.2 := by simp [textT]

theorem write_ts {w1 W : World} {Bx : Nat} {xs : Array Value} {bs : List UInt8} {Wc : World} (s : ByteArray) (h : TS w1 W w1.heap.size Bx xs bs Wc) (hne : Bx ≠ w1.heap.size) (hl : bs.length + s.size ≤ 1000000000) :
    Calls Tryd.prog 48 #[.pointer (some ⟨w1.heap.size, 0, none⟩), .string s] Wc fun e w' => e = .returned (.tuple #[.int .i64 s.size, .nilIface]) ∧ TS w1 W w1.heap.size Bx xs (bs ++ s.data.toList) w' := by
  refine (writeString_calls w1.heap.size w1.heap.size (Lib.byteCells bs) s Wc h.bl (by rw [Lib.byteCells_length]; omega) h.sz).mono ?_
  rintro e w' ⟨rfl, h1, h2, h3⟩
  exact ⟨rfl, h.write hne h1 h2 h3⟩
theorem itoa_ts {w1 W : World} {Bx : Nat} {xs : Array Value} {bs : List UInt8} {Wc : World} (n : Int) (h : TS w1 W w1.heap.size Bx xs bs Wc) (h0 : -32768 ≤ n) (h1 : n ≤ 32767) (hG : Glob w1) :
    Calls Tryd.prog 49 #[.int .i64 n] Wc fun e w' => e = .returned (.string ⟨(Lib.itoa n).toArray⟩) ∧ TS w1 W w1.heap.size Bx xs bs w' := by
  refine (itoa_calls n (by omega) (by omega) Wc (hG.below h.be)).mono ?_
  rintro e w' ⟨rfl, hb⟩
  exact ⟨rfl, h.below hb⟩
theorem parts_ts {w1 W : World} {Bx : Nat} {xs : Array Value} {bs : List UInt8} {Wc : World} (c k : Nat) (h1 : c ≤ 40) (hk : opk c = k) (h : TS w1 W w1.heap.size Bx xs bs Wc) (hG : Glob w1) :
    Calls Tryd.prog 44 #[.int .i64 c] Wc fun e w' => ∃ b off cap, e = .returned (.tuple #[.string ⟨(nmC c).toArray⟩, .slice (some ⟨b, off, none⟩) (ksK k).length cap]) ∧ TS w1 W w1.heap.size Bx xs bs w' := by
  refine (parts_k c k h1 hk Wc (hG.below h.be)).mono ?_
  rintro e w' ⟨hb, b, off, cap, _, rfl, _⟩
  exact ⟨b, off, cap, rfl, h.below hb⟩

theorem string_calls (b : Nat) (l : List UInt8) (w : World) (h : Lib.IsBuilder 113 5 b b (Lib.byteCells l) w) (hBw : b ≤ w.heap.size) :
    Calls Tryd.prog 50 #[.pointer (some ⟨b, 0, none⟩)] w fun e w' => e = .returned (.string ⟨l.toArray⟩) ∧ Below b w w' ∧ (∀ (k : Nat) (o : Obj), w.heap[k]? = some o → o.isCells = false → w'.heap[k]? = some o) := by
  refine (Any.Builder_String_any_k Tryd.lays169 Tryd.Builder_Extra_169 b b l w (Lib.IsBuilderF.of h) hBw).mono ?_
  rintro e w' ⟨rfl, h1, h2, h3⟩
  obtain ⟨pb, vb, hrowb⟩ : ∃ pb vb, w.heap[b]? = some (Obj.cells #[pb, vb] 113 (0, 0)) := by
    rcases h with ⟨_, v, h, _⟩ | ⟨_, v, h, _⟩
    · exact ⟨_, v, h⟩
    · exact ⟨_, v, h⟩
  refine ⟨rfl, h2, fun k o hk hc => h3 k o hk ?_ ?_⟩
  · intro e; cases e; rw [hrowb] at hk; cases hk; simp [Obj.isCells] at hc
  · rintro c fz rfl; simp [Obj.isCells] at hc
theorem textT_ops (l : List Int) (hby : ∀ x ∈ l, 0 ≤ x ∧ x ≤ 255) (hlen : l.length ≤ 1000000) : textT (opsG l hby hlen) = ((opsL l).map fun x => lineT x.2).flatten := by
  rw [← opsG_val l hby hlen, List.map_map]
  rfl

def TxPost (w : World) (l : List Int) (e : Ending) (w' : World) : Prop :=
  e = .returned (.tuple #[.string ⟨(textS l).1.toArray⟩, .int .i64 (textS l).2]) ∧ Below w.heap.size w w'

set_option maxRecDepth 100000 in
set_option maxHeartbeats 1000000 in
theorem text_err (v : Value) (l : List Int) (w : World) (hlen : l.length ≤ 1000000) (hb : Byt w v l) (hG : Glob w) (he : (placesS l).2 ≠ 0) : Calls Tryd.prog 18 #[v] w (TxPost w l) := by
  have ht : textS l = ([], (placesS l).2) := if_neg he
  have HP := Lib.hid (places_calls v l w hlen hb hG)
  obtain ⟨A, c, rfl, _⟩ := hb
  have HT := Lib.hid ht
  obtain ⟨er, her⟩ : ∃ er, (placesS l).2 = er := ⟨_, rfl⟩
  have H2 : Calls Tryd.prog 16 #[.slice A l.length c] w fun e w' => ∃ v, e = .returned (.tuple #[v, .int .i64 er]) ∧ Below w.heap.size w w' := HP.out.mono fun e w' h => by
    obtain ⟨v, h1, h2, h3⟩ := h
    rw [her] at h1
    exact ⟨v, h1, h3⟩
  have HE := Lib.hid he
  rw [her] at he ht
  have HP2 := Lib.hid H2
  have hb1 : (er != 0) = true := by simpa using he
  clear H2 HP ht hG he
  have hpost : ∀ w', Below w.heap.size w w' → TxPost w l (.returned (.tuple #[.string ⟨#[]⟩, .int .i64 er])) w' := fun w' hb => by
    unfold TxPost
    rw [HT.out, her]
    exact ⟨rfl, hb⟩
  have HPO := Lib.hid hpost
  clear hpost HT her HE
  go_enter Tryd.func18, Tryd.ntmps18
  go_wp2_with (first | (go_at_call 16; refine HP2.out.mono ?_; rintro e w1 ⟨v1, rfl, hb3⟩) | fail)
  go_ret2
  exact HPO.out _ hb3

set_option maxRecDepth 100000 in
set_option maxHeartbeats 2000000 in
theorem text_ok (v : Value) (l : List Int) (w : World) (hlen : l.length ≤ 1000000) (hb : Byt w v l) (hG : Glob w) (he : (placesS l).2 = 0) : Calls Tryd.prog 18 #[v] w (TxPost w l) := by
  have ht : textS l = (((opsL l).map fun x => lineT x.2).flatten, 0) := if_pos he
  have H2 : Calls Tryd.prog 16 #[v] w fun e w' => ∃ v, e = .returned (.tuple #[v, .int .i64 0]) ∧ Below w.heap.size w w' := (places_calls v l w hlen hb hG).mono fun e w' h => by
    obtain ⟨v, h1, h2, h3⟩ := h
    rw [he] at h1
    exact ⟨v, h1, h3⟩
  have HP2 := Lib.hid H2
  have HT := Lib.hid ht
  clear H2 ht he
  refine (callsIn_wide (n := 6)).1 ?_
  obtain ⟨A, c, hv, hnc, hcm, hby, hcl⟩ := id hb
  subst hv
  have HB := Lib.hid hb
  have HG := Lib.hid hG
  clear hb hG hcl
  have HBY := Lib.hid hby
  clear hby
  refine callsIn_of_wp_marks Tryd.func18 rfl trivial ?_ rfl
  simp only [Tryd.ntmps18, List.size_toArray, List.length_cons, List.length_nil, Nat.reduceAdd, Nat.reduceSub, Array.replicate_succ, Array.replicate_zero, List.push_toArray, List.append_toArray, List.nil_append, List.cons_append]
  gi_wp2_with (first | (refine ⟨trivial, ?_⟩; gi_at_call 16; refine (callsIn_wide.2 HP2.out).mono ?_; rintro e w1 ⟨v1, rfl, hb1⟩; have HB1 := Lib.hid hb1; clear hb1) | (refine ⟨trivial, ?_⟩; gi_at_call 20; refine (callsIn_wide.2 (all_calls _ _ _ _)).mono ?_; rintro e w' ⟨rfl, rfl⟩) | fail)
  have hBd : Lib.IsBuilder 113 5 w1.heap.size w1.heap.size (Lib.byteCells []) (w1.alloc (.cells #[.pointer none, .slice none 0 0] 113)) :=
    .inl ⟨Nat.le_refl _, .slice none 0 0, heap_alloc_new w1 _, World.ownsRow_nil _ _ _ _, by simp [Value.ownBlock]⟩
  have hBd2 := isBuilder_below hBd ((Below.refl _ _).alloc (Nat.le_refl _) (.cells #[.slice A l.length c] 22))
  have bS := Boxed.new (w1.alloc (.cells #[.pointer none, .slice none 0 0] 113)) 22 (.slice A l.length c)
  simp only [World.size_alloc] at bS
  have hB0 : Below w1.heap.size w1 ((w1.alloc (.cells #[.pointer none, .slice none 0 0] 113)).alloc (.cells #[.slice A l.length c] 22)) := ((Below.refl _ w1).alloc (Nat.le_refl _) _).alloc (by simp) _
  have hsz : ((w1.alloc (.cells #[.pointer none, .slice none 0 0] 113)).alloc (.cells #[.slice A l.length c] 22)).heap.size = w1.heap.size + 2 := by simp
  obtain ⟨W0, hW0⟩ : ∃ W0, (w1.alloc (.cells #[.pointer none, .slice none 0 0] 113)).alloc (.cells #[.slice A l.length c] 22) = W0 := ⟨_, rfl⟩
  rw [hW0] at hBd2 bS hB0 hsz ⊢
  clear hW0 hBd
  have hW0w : Below w.heap.size w W0 := HB1.out.trans (hB0.mono HB1.out.size)
  refine wpIn_rangeFunc_ownH rfl (by omega) (gf := 52) (lb := #[.pointer (some ⟨w1.heap.size + 1, 0, none⟩)]) rfl trivial (enters_of Tryd.func52 (by kernel_rfl) rfl)
    (all_stopsG _ (by omega) (w1.heap.size + 1) _ l W0 hlen HBY.out bS.cell (HB.out.below hW0w) (HG.out.below hW0w)) KpB.trans KpB.put (Below.refl _ _) (fun _ => rfl)
    (fun pre W => (Lib.IsBuilder 113 5 w1.heap.size w1.heap.size (Lib.byteCells (textT pre)) W ∧ Boxed W (w1.heap.size + 1) 22 (.slice A l.length c)) ∧ Below w1.heap.size w1 W ∧ w1.heap.size + 2 ≤ W.heap.size)
    (fun _ _ _ => False)
    (OwnFrom.and (OwnFrom.and (Own.from (isBuilder_own _ _ (fun pre => Lib.byteCells (textT pre))) _) (Own.from (boxed_own _ _ _) _)) (OwnFrom.and (ownFrom_below (Nat.le_refl _) (by omega)) (fun s A B row hs hg hr => Nat.le_trans hs hg.size)))
    (fun _ _ _ _ _ hs _ _ => hs)
    ⟨⟨hBd2, bS⟩, hB0, by omega⟩
    (fun x a' W => ∃ Bx, w1.heap.size + 2 ≤ Bx ∧ W.heap[Bx]? = some (Obj.cells #[.int .i64 x.1.2.code, .int .i64 x.1.2.a, .int .i64 x.1.2.b, .int .i64 x.1.2.size] 25 (0, 0)) ∧ a' = { tmps := #[.slice A l.length c, undef, .string ⟨#[]⟩, .int .i64 0, v1, .int .i64 0, .pointer (some ⟨w1.heap.size, 0, none⟩), undef, .pointer (some ⟨Bx, 0, none⟩), undef, undef, undef, .tuple #[v1, .int .i64 0], .slice A l.length c, .tuple #[v1, .int .i64 0], v1, .int .i64 0, .int .i64 0, .bool false, undef, .slice A l.length c, .func (.func 52) #[] #[.pointer (some ⟨w1.heap.size + 1, 0, none⟩)], .int .i64 x.1.1, opV x.1.2, undef, undef, undef, undef, undef, undef, undef, undef, undef, undef, undef, undef, undef, undef, undef, undef, undef, undef, undef, undef, undef, undef, undef, undef, undef, undef, undef], defers := [] })
    (fun x a' _ X Y row hs hg hr => by obtain ⟨Bx, h1, h2, h3⟩ := hs; exact ⟨Bx, h1, row_own Bx (fun (_ : Unit) => #[.int .i64 x.1.2.code, .int .i64 x.1.2.a, .int .i64 x.1.2.b, .int .i64 x.1.2.size]) 25 () X Y row h2 hg (fun r e => (hr r e).2), h3⟩)
    ?assign ?body ?done ?stop
  case assign =>
    rintro q pre x W K ⟨⟨bd, bs⟩, hb2, hs1⟩ hK
    simp only [encO, opV]
    gi_wp2
    exact hK _ _ ((KeepsOthers.alloc _ _).from _) (KpB.below ((Below.refl _ W).alloc (Nat.le_refl _) _)) ⟨⟨isBuilder_below bd ((Below.refl _ W).alloc (Nat.le_refl _) _), bs.alloc _⟩, hb2.alloc hb2.size _, by simp; omega⟩ ⟨W.heap.size, hs1, heap_alloc_new W _, rfl⟩
  case body =>
    rintro q pre x a' W hq ⟨r, hr⟩ ⟨⟨bd, bs⟩, hb2, hs1⟩ ⟨Bx, hBx, bX, rfl⟩ hlt
    obtain ⟨⟨p, code, ra, rb, size, err⟩, hgood⟩ := x
    have g0 : 0 ≤ code := hgood.1.1
    have g1 : code ≤ 40 := hgood.1.2
    have g2 : -32768 ≤ ra := hgood.2.1.1
    have g3 : ra ≤ 32767 := hgood.2.1.2
    have g4 : -32768 ≤ rb := hgood.2.2.1.1
    have g5 : rb ≤ 32767 := hgood.2.2.1.2
    obtain ⟨n, rfl⟩ := Int.eq_ofNat_of_zero_le g0
    have hn : n ≤ 40 := by omega
    dsimp only at bX ⊢
    have hlen2 := text_len pre
    have hT0 : TS w1 W w1.heap.size Bx #[.int .i64 n, .int .i64 ra, .int .i64 rb, .int .i64 size] (textT pre) W := ⟨bd, hb2, OK5.refl _ _, bX, by omega⟩
    have hne : Bx ≠ w1.heap.size := by omega
    have hG1 : Glob w1 := HG.out.below HB1.out
    have hnm := nm_len n (by omega)
    have hla := Lib.itoa_length_le ra (by omega) (by omega)
    have hlb := Lib.itoa_length_le rb (by omega) (by omega)
    obtain ⟨k, hk⟩ : ∃ k, opk n = k := ⟨_, rfl⟩
    have hk4 := opk_le n
    rw [hk] at hk4
    have HK := Lib.hid hk
    have hfin : ∀ Wc bs', bs' = textT (pre ++ [⟨(p, ⟨n, ra, rb, size, err⟩), hgood⟩]) → TS w1 W w1.heap.size Bx #[.int .i64 n, .int .i64 ra, .int .i64 rb, .int .i64 size] bs' Wc →
        KeepsFrom W0.heap.size W Wc ∧ KpB (w1.heap.size + 1) (.slice A l.length c) l W Wc ∧ (Lib.IsBuilder 113 5 w1.heap.size w1.heap.size (Lib.byteCells (textT (pre ++ [⟨(p, ⟨n, ra, rb, size, err⟩), hgood⟩]))) Wc ∧ Boxed Wc (w1.heap.size + 1) 22 (.slice A l.length c)) ∧ Below w1.heap.size w1 Wc ∧ w1.heap.size + 2 ≤ Wc.heap.size := by
      rintro Wc bs' rfl h
      obtain ⟨pb, vb, hrowb⟩ : ∃ pb vb, W.heap[w1.heap.size]? = some (Obj.cells #[pb, vb] 113 (0, 0)) := by
        rcases bd with ⟨_, v, h, _⟩ | ⟨_, v, h, _⟩
        · exact ⟨_, v, h⟩
        · exact ⟨_, v, h⟩
      have hbox : Boxed Wc (w1.heap.size + 1) 22 (.slice A l.length c) := h.ok.2 _ _ bs (by omega) (by simp)
      have hWw : Below w.heap.size w Wc := HB1.out.trans (h.be.mono HB1.out.size)
      refine ⟨(h.ok.others hrowb).from _, ⟨fun _ => HB.out.below hWw, fun _ => hbox.cell, fun _ => HG.out.below hWw, fun g cs hg => h.ok.2 g _ hg (fun e => by subst e; rw [hrowb] at hg; cases hg) (by simp), h.ok.1⟩, ⟨h.bl, hbox⟩, h.be, by have := h.ok.1; omega⟩
    have HF := Lib.hid hfin
    have hline : lineT (⟨n, ra, rb, size, err⟩ : Rd) = nmC n ++ (tailT ⟨n, ra, rb, size, err⟩ k ++ [10]) := by unfold lineT; rw [hk]
    have HLI := Lib.hid hline
    have HT0 := Lib.hid hT0
    have HG1 := Lib.hid hG1
    have hc0 := hT0.cells
    obtain ⟨cC, cA, cB⟩ := hc0
    clear hT0 hG1 hline hfin bd bs hb2 bX hr hk
    rcases hk4 with rfl | rfl | rfl | rfl | rfl
    · gi_wp2_with (first | (refine ⟨trivial, ?_⟩; gi_at_call 44; refine (CallsIn.inRound q (callsIn_wide.2 (parts_ts n 0 hn HK.out HT0.out HG1.out))).mono ?_; rintro e W1 ⟨b2, off2, cap2, rfl, hT1⟩; simp only [ksK, List.length_nil, List.length_cons, Nat.zero_add, Nat.reduceAdd]; have HT1 := Lib.hid hT1; obtain ⟨cC1, cA1, cB1⟩ := hT1.cells; clear hT1 HT0) | (refine ⟨trivial, ?_⟩; gi_at_call 48; refine (CallsIn.inRound q (callsIn_wide.2 (write_ts _ HT1.out hne (by simp [ByteArray.size]; omega)))).mono ?_; rintro e W2 ⟨rfl, hT2⟩; have HT2 := Lib.hid hT2; obtain ⟨cC2, cA2, cB2⟩ := hT2.cells; clear hT2 HT1) | fail)
      refine wpIn_loop_rounds 1 ?_
      rw [roundsIn_succ]
      gi_wp2_with (first | (refine ⟨trivial, ?_⟩; gi_at_call 48; refine (CallsIn.inRound q (callsIn_wide.2 (write_ts _ HT2.out hne (by simp [ByteArray.size]; omega)))).mono ?_; rintro e W3 ⟨rfl, hT3⟩; have HT3 := Lib.hid hT3; clear hT3 HT2) | fail)
      exact HF.out _ _ (by rw [textT_snoc]; show _ = textT pre ++ lineT _; rw [HLI.out]; simp [tailT]) HT3.out
    · gi_wp2_with (first | (refine ⟨trivial, ?_⟩; gi_at_call 44; refine (CallsIn.inRound q (callsIn_wide.2 (parts_ts n 1 hn HK.out HT0.out HG1.out))).mono ?_; rintro e W1 ⟨b2, off2, cap2, rfl, hT1⟩; simp only [ksK, List.length_nil, List.length_cons, Nat.zero_add, Nat.reduceAdd]; have HT1 := Lib.hid hT1; obtain ⟨cC1, cA1, cB1⟩ := hT1.cells; clear hT1 HT0) | (refine ⟨trivial, ?_⟩; gi_at_call 48; refine (CallsIn.inRound q (callsIn_wide.2 (write_ts _ HT1.out hne (by simp [ByteArray.size]; omega)))).mono ?_; rintro e W2 ⟨rfl, hT2⟩; have HT2 := Lib.hid hT2; obtain ⟨cC2, cA2, cB2⟩ := hT2.cells; clear hT2 HT1) | fail)
      refine wpIn_loop_rounds 2 ?_
      rw [roundsIn_succ]
      gi_wp2_with (first | (refine ⟨trivial, ?_⟩; gi_at_call 49; refine (CallsIn.inRound q (callsIn_wide.2 (itoa_ts ra (HT2.out.below ((Below.refl _ _).alloc (Nat.le_refl _) _)) g2 g3 HG1.out))).mono ?_; rintro e W3 ⟨rfl, hT3⟩; have HT3 := Lib.hid hT3; clear hT3 HT2) | (refine ⟨trivial, ?_⟩; gi_at_call 48; refine (CallsIn.inRound q (callsIn_wide.2 (write_ts _ HT3.out hne (by simp [ByteArray.size]; omega)))).mono ?_; rintro e W4 ⟨rfl, hT4⟩; have HT4 := Lib.hid hT4; obtain ⟨cC4, cA4, cB4⟩ := hT4.cells; clear hT4 HT3) | fail)
      rw [roundsIn_succ]
      gi_wp2_with (first | (refine ⟨trivial, ?_⟩; gi_at_call 48; refine (CallsIn.inRound q (callsIn_wide.2 (write_ts _ HT4.out hne (by simp [ByteArray.size]; omega)))).mono ?_; rintro e W5 ⟨rfl, hT5⟩; have HT5 := Lib.hid hT5; clear hT5 HT4) | fail)
      exact HF.out _ _ (by rw [textT_snoc]; show _ = textT pre ++ lineT _; rw [HLI.out]; simp [tailT]) HT5.out
    · gi_wp2_with (first | (refine ⟨trivial, ?_⟩; gi_at_call 44; refine (CallsIn.inRound q (callsIn_wide.2 (parts_ts n 2 hn HK.out HT0.out HG1.out))).mono ?_; rintro e W1 ⟨b2, off2, cap2, rfl, hT1⟩; simp only [ksK, List.length_nil, List.length_cons, Nat.zero_add, Nat.reduceAdd]; have HT1 := Lib.hid hT1; obtain ⟨cC1, cA1, cB1⟩ := hT1.cells; clear hT1 HT0) | (refine ⟨trivial, ?_⟩; gi_at_call 48; refine (CallsIn.inRound q (callsIn_wide.2 (write_ts _ HT1.out hne (by simp [ByteArray.size]; omega)))).mono ?_; rintro e W2 ⟨rfl, hT2⟩; have HT2 := Lib.hid hT2; obtain ⟨cC2, cA2, cB2⟩ := hT2.cells; clear hT2 HT1) | fail)
      refine wpIn_loop_rounds 2 ?_
      rw [roundsIn_succ]
      gi_wp2_with (first | (refine ⟨trivial, ?_⟩; gi_at_call 49; refine (CallsIn.inRound q (callsIn_wide.2 (itoa_ts ra (HT2.out.below ((Below.refl _ _).alloc (Nat.le_refl _) _)) g2 g3 HG1.out))).mono ?_; rintro e W3 ⟨rfl, hT3⟩; have HT3 := Lib.hid hT3; clear hT3 HT2) | (refine ⟨trivial, ?_⟩; gi_at_call 48; refine (CallsIn.inRound q (callsIn_wide.2 (write_ts _ HT3.out hne (by simp [ByteArray.size]; omega)))).mono ?_; rintro e W4 ⟨rfl, hT4⟩; have HT4 := Lib.hid hT4; obtain ⟨cC4, cA4, cB4⟩ := hT4.cells; clear hT4 HT3) | fail)
      rw [roundsIn_succ]
      gi_wp2_with (first | (refine ⟨trivial, ?_⟩; gi_at_call 48; refine (CallsIn.inRound q (callsIn_wide.2 (write_ts _ HT4.out hne (by simp [ByteArray.size]; omega)))).mono ?_; rintro e W5 ⟨rfl, hT5⟩; have HT5 := Lib.hid hT5; clear hT5 HT4) | fail)
      exact HF.out _ _ (by rw [textT_snoc]; show _ = textT pre ++ lineT _; rw [HLI.out]; simp [tailT]) HT5.out
    · gi_wp2_with (first | (refine ⟨trivial, ?_⟩; gi_at_call 44; refine (CallsIn.inRound q (callsIn_wide.2 (parts_ts n 3 hn HK.out HT0.out HG1.out))).mono ?_; rintro e W1 ⟨b2, off2, cap2, rfl, hT1⟩; simp only [ksK, List.length_nil, List.length_cons, Nat.zero_add, Nat.reduceAdd]; have HT1 := Lib.hid hT1; obtain ⟨cC1, cA1, cB1⟩ := hT1.cells; clear hT1 HT0) | (refine ⟨trivial, ?_⟩; gi_at_call 48; refine (CallsIn.inRound q (callsIn_wide.2 (write_ts _ HT1.out hne (by simp [ByteArray.size]; omega)))).mono ?_; rintro e W2 ⟨rfl, hT2⟩; have HT2 := Lib.hid hT2; obtain ⟨cC2, cA2, cB2⟩ := hT2.cells; clear hT2 HT1) | fail)
      refine wpIn_loop_rounds 2 ?_
      rw [roundsIn_succ]
      gi_wp2_with (first | (refine ⟨trivial, ?_⟩; gi_at_call 49; refine (CallsIn.inRound q (callsIn_wide.2 (itoa_ts ra (HT2.out.below ((Below.refl _ _).alloc (Nat.le_refl _) _)) g2 g3 HG1.out))).mono ?_; rintro e W3 ⟨rfl, hT3⟩; have HT3 := Lib.hid hT3; clear hT3 HT2) | (refine ⟨trivial, ?_⟩; gi_at_call 48; refine (CallsIn.inRound q (callsIn_wide.2 (write_ts _ HT3.out hne (by simp [ByteArray.size]; omega)))).mono ?_; rintro e W4 ⟨rfl, hT4⟩; have HT4 := Lib.hid hT4; obtain ⟨cC4, cA4, cB4⟩ := hT4.cells; clear hT4 HT3) | fail)
      rw [roundsIn_succ]
      gi_wp2_with (first | (refine ⟨trivial, ?_⟩; gi_at_call 48; refine (CallsIn.inRound q (callsIn_wide.2 (write_ts _ HT4.out hne (by simp [ByteArray.size]; omega)))).mono ?_; rintro e W5 ⟨rfl, hT5⟩; have HT5 := Lib.hid hT5; clear hT5 HT4) | fail)
      exact HF.out _ _ (by rw [textT_snoc]; show _ = textT pre ++ lineT _; rw [HLI.out]; simp [tailT]) HT5.out
    · gi_wp2_with (first | (refine ⟨trivial, ?_⟩; gi_at_call 44; refine (CallsIn.inRound q (callsIn_wide.2 (parts_ts n 4 hn HK.out HT0.out HG1.out))).mono ?_; rintro e W1 ⟨b2, off2, cap2, rfl, hT1⟩; simp only [ksK, List.length_nil, List.length_cons, Nat.zero_add, Nat.reduceAdd]; have HT1 := Lib.hid hT1; obtain ⟨cC1, cA1, cB1⟩ := hT1.cells; clear hT1 HT0) | (refine ⟨trivial, ?_⟩; gi_at_call 48; refine (CallsIn.inRound q (callsIn_wide.2 (write_ts _ HT1.out hne (by simp [ByteArray.size]; omega)))).mono ?_; rintro e W2 ⟨rfl, hT2⟩; have HT2 := Lib.hid hT2; obtain ⟨cC2, cA2, cB2⟩ := hT2.cells; clear hT2 HT1) | fail)
      refine wpIn_loop_rounds 3 ?_
      rw [roundsIn_succ]
      gi_wp2_with (first | (refine ⟨trivial, ?_⟩; gi_at_call 49; refine (CallsIn.inRound q (callsIn_wide.2 (itoa_ts ra (HT2.out.below ((Below.refl _ _).alloc (Nat.le_refl _) _)) g2 g3 HG1.out))).mono ?_; rintro e W3 ⟨rfl, hT3⟩; have HT3 := Lib.hid hT3; clear hT3 HT2) | (refine ⟨trivial, ?_⟩; gi_at_call 48; refine (CallsIn.inRound q (callsIn_wide.2 (write_ts _ HT3.out hne (by simp [ByteArray.size]; omega)))).mono ?_; rintro e W4 ⟨rfl, hT4⟩; have HT4 := Lib.hid hT4; obtain ⟨cC4, cA4, cB4⟩ := hT4.cells; clear hT4 HT3) | fail)
      rw [roundsIn_succ]
      gi_wp2_with (first | (refine ⟨trivial, ?_⟩; gi_at_call 49; refine (CallsIn.inRound q (callsIn_wide.2 (itoa_ts rb (HT4.out.below ((Below.refl _ _).alloc (Nat.le_refl _) _)) g4 g5 HG1.out))).mono ?_; rintro e W5 ⟨rfl, hT5⟩; have HT5 := Lib.hid hT5; clear hT5 HT4) | (refine ⟨trivial, ?_⟩; gi_at_call 48; refine (CallsIn.inRound q (callsIn_wide.2 (write_ts _ HT5.out hne (by simp [ByteArray.size]; omega)))).mono ?_; rintro e W6 ⟨rfl, hT6⟩; have HT6 := Lib.hid hT6; obtain ⟨cC6, cA6, cB6⟩ := hT6.cells; clear hT6 HT5) | fail)
      rw [roundsIn_succ]
      gi_wp2_with (first | (refine ⟨trivial, ?_⟩; gi_at_call 48; refine (CallsIn.inRound q (callsIn_wide.2 (write_ts _ HT6.out hne (by simp [ByteArray.size]; omega)))).mono ?_; rintro e W7 ⟨rfl, hT7⟩; have HT7 := Lib.hid hT7; clear hT7 HT6) | fail)
      exact HF.out _ _ (by rw [textT_snoc]; show _ = textT pre ++ lineT _; rw [HLI.out]; simp [tailT]) HT7.out
  case done =>
    rintro D ys W hD rfl ⟨⟨bd, bs⟩, hb2, hs1⟩ hK
    have hbb : Below w.heap.size w W := HB1.out.trans (hb2.mono HB1.out.size)
    have hpost : ∀ W2, Below w1.heap.size W W2 → W2.heap[D]? = some (.deferred (some [])) → TxPost w l (.returned (.tuple #[.string ⟨(textT (opsG l HBY.out hlen)).toArray⟩, .int .i64 0])) (W2.putObj D (.deferred none)) := by
      intro W2 h1 h2
      unfold TxPost
      rw [HT.out, textT_ops]
      refine ⟨rfl, (hbb.trans (h1.mono HB1.out.size)).trans (belowK_b (w := w1) HB1.out.size W2 D _ _ (by omega) h2 rfl rfl)⟩
    have HPO := Lib.hid hpost
    have HK := Lib.hid hK
    have HS := Lib.hid (string_calls w1.heap.size _ W bd (by omega))
    clear hpost hK bd bs hb2 hbb
    gi_wp2_with (first | (refine ⟨trivial, ?_⟩; gi_at_call 50; refine (callsIn_wide.2 HS.out).mono ?_; rintro e w2 ⟨rfl, hb5, hk5⟩; have HB5 := Lib.hid hb5; have HK5 := Lib.hid hk5; clear hb5 hk5) | fail)
    refine ⟨by simp, .inl ⟨_, _, rfl, run_takeDeferred (HK5.out D _ HK.out rfl), ?_⟩⟩
    exact ⟨_, results_tmp2 (fn := Tryd.f18) rfl _ _ _, HPO.out _ HB5.out (HK5.out D _ HK.out rfl)⟩
  case stop =>
    rintro D c pre W _ _ h _
    exact h.elim

theorem text_calls (v : Value) (l : List Int) (w : World) (hlen : l.length ≤ 1000000) (hb : Byt w v l) (hG : Glob w) : Calls Tryd.prog 18 #[v] w (TxPost w l) := by
  by_cases he : (placesS l).2 = 0
  · exact text_ok v l w hlen hb hG he
  · exact text_err v l w hlen hb hG he
end Go.Proofs.YtkphijabhoppnaaDoor
namespace Go.Proofs.YtkphijabhoppnaaDoor
open Go.RowKit
set_option linter.unusedSimpArgs false
set_option linter.unusedVariables false

theorem byt_lit (w : World) (l : List Int) (hl : l ≠ []) (hby : ∀ x ∈ l, 0 ≤ x ∧ x ≤ 255) (hm : l.length ≤ 1000000) :
    Byt (w.alloc (.cells (l.map (Value.int .u8)).toArray 5)) (.slice (some ⟨w.heap.size, 0, none⟩) l.length l.length) l := by
  refine ⟨_, _, rfl, Nat.le_refl _, by omega, hby, fun _ => ⟨_, _, rfl, fun j hj => ?_⟩⟩
  have hj' : (0 + j) < (l.map (Value.int .u8)).toArray.size := by simpa using hj
  rw [cell_of_row _ _ (0 + j) _ _ _ (heap_alloc_new w _), Array.getElem?_eq_getElem hj']
  simp [List.getElem?_eq_getElem hj]

theorem known_read : readS [26, 254, 255] 0 = ⟨26, -2, 0, 3, 0⟩ := by
  rfl
theorem known_text : textS [2, 255] = ([115, 109, 97, 108, 108, 32, 45, 49, 10], 0) := by
  have h1 : opsL [2, 255] = [(0, ⟨2, -1, 0, 2, 0⟩)] := by rfl
  have h2 : placesS [2, 255] = ([0], 0) := by
    have e : endO [(0, (⟨2, -1, 0, 2, 0⟩ : Rd))] = 2 := by simp [endO, wrap64]
    unfold placesS
    rw [h1, e]
    rfl
  unfold textS
  rw [h2, h1, if_pos rfl]
  have h3 : nmC 2 = [115, 109, 97, 108, 108] := by decide +kernel
  have h4 : opk 2 = 2 := by rfl
  have h5 : Lib.itoa (-1) = [45, 49] := by
    unfold Lib.itoa
    rw [if_pos (by omega)]
    show 45 :: Lib.decDigits 1 = _
    rw [Lib.decDigits]
    rfl
  simp [lineT, h3, h4, tailT, h5]

set_option maxHeartbeats 1000000 in
theorem known_calls (w : World) (hG : Glob w) : Calls Tryd.prog 12 #[] w fun e w' => e = .returned (.bool true) ∧ Below w.heap.size w w' := by
  have HG := Lib.hid hG
  clear hG
  have hb1 := byt_lit w [26, 254, 255] (by simp) (by decide) (by decide)
  have hr : Calls Tryd.prog 13 #[.slice (some ⟨w.heap.size, 0, none⟩) 3 3, .int .i64 0] (w.alloc (.cells #[.int .u8 26, .int .u8 254, .int .u8 255] 5)) fun e w' => e = .returned (Rd.val ⟨26, -2, 0, 3, 0⟩) ∧ Below (w.alloc (.cells #[.int .u8 26, .int .u8 254, .int .u8 255] 5)).heap.size (w.alloc (.cells #[.int .u8 26, .int .u8 254, .int .u8 255] 5)) w' := by
    have := read_calls _ _ 0 _ (HG.out.below ((Below.refl w.heap.size w).alloc (Nat.le_refl _) _)) hb1
    rw [known_read] at this
    exact this
  have ht : ∀ (w1 : World) (g : Nat), g = w1.heap.size → Glob w1 → Calls Tryd.prog 18 #[.slice (some ⟨g, 0, none⟩) 2 2] (w1.alloc (.cells #[.int .u8 2, .int .u8 255] 5)) fun e w' => e = .returned (.tuple #[.string ⟨#[115, 109, 97, 108, 108, 32, 45, 49, 10]⟩, .int .i64 0]) ∧ Below w1.heap.size w1 w' := by
    rintro w1 g rfl h1
    have hb := (Below.refl w1.heap.size w1).alloc (Nat.le_refl _) (.cells #[.int .u8 2, .int .u8 255] 5)
    refine (text_calls _ _ _ (by decide) (byt_lit w1 [2, 255] (by simp) (by decide) (by decide)) (h1.below hb)).mono ?_
    unfold TxPost
    rw [known_text]
    rintro e w' ⟨rfl, h⟩
    exact ⟨rfl, hb.trans (h.mono (by simp))⟩
  have HR := Lib.hid hr
  have HT := Lib.hid ht
  clear hb1 hr ht
  go_enter Tryd.func12, Tryd.ntmps12
  go_wp2_with (first | (go_at_call 13; refine HR.out.mono ?_; rintro e w1 ⟨rfl, hb1⟩; unfold Rd.val; dsimp only; have hbw : Below w.heap.size w w1 := ((Below.refl _ w).alloc (Nat.le_refl _) _).trans (hb1.mono (by simp)); have HB1 := Lib.hid hbw; clear hb1 hbw) | fail)
  have HW := Lib.hid ((HB1.out.alloc HB1.out.size) (.cells #[.int .i64 26, .int .i64 (-2), .int .i64 0, .int .i64 3] 25))
  have HT2 := Lib.hid (HT.out (w1.alloc (.cells #[.int .i64 26, .int .i64 (-2), .int .i64 0, .int .i64 3] 25)) (w1.heap.size + 1) (by simp) (HG.out.below HW.out))
  refine HT2.out.mono ?_
  rintro e w2 ⟨rfl, hb2⟩
  have hrow := row_kept hb2 (heap_alloc_new w1 _)
  have c0 := (cell_of_row _ _ 0 _ _ _ hrow).trans rfl
  have c1 := (cell_of_row _ _ 1 _ _ _ hrow).trans rfl
  have c2 := (cell_of_row _ _ 2 _ _ _ hrow).trans rfl
  have c3 := (cell_of_row _ _ 3 _ _ _ hrow).trans rfl
  have HB2 := Lib.hid (HW.out.trans (hb2.mono HW.out.size))
  clear hb2 hrow
  go_wp2_with fail
  go_ret
  exact ⟨rfl, HB2.out⟩
end Go.Proofs.YtkphijabhoppnaaDoor
