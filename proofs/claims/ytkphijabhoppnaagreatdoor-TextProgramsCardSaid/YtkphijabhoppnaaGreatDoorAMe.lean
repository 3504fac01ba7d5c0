/- The builder's WriteString; instructions written (brazier/text.Print). -/
import Derived.Test.YtkphijabhoppnaaGreatDoorAMd
import Derived.Lib.Strings
import Derived.Lib.Slices
import Derived.Lib.Walk
import Derived.Lib.Builder
import Derived.Lib.AppendStr
import Derived.Lib.UnsafeStr
import Derived.Lib.MakeNoZero
import Derived.Laws.Externs
namespace Go.Proofs.YtkphijabhoppnaaGreatDoor
open Go.RowKit Go.Shelf
set_option linter.unusedSimpArgs false
set_option linter.unusedVariables false
def OK5 (b : Nat) (w w' : World) : Prop :=
  w.heap.size ≤ w'.heap.size ∧ ∀ (k : Nat) (o : Obj), w.heap[k]? = some o → k ≠ b → (∀ cs fr, o ≠ Obj.cells cs 5 fr) → w'.heap[k]? = some o
theorem OK5.refl (b : Nat) (w : World) : OK5 b w w := ⟨Nat.le_refl _, fun _ _ h _ _ => h⟩
theorem OK5.trans {b : Nat} {u v w : World} (h : OK5 b u v) (k : OK5 b v w) : OK5 b u w := ⟨Nat.le_trans h.1 k.1, fun i o hi hb hc => k.2 i o (h.2 i o hi hb hc) hb hc⟩
theorem OK5.set (b i : Nat) (w : World) (v : Value) : OK5 b w (w.setCell ⟨b, i, none⟩ v) :=
  ⟨by simp [World.setCell], fun k o h hb _ => (heap_setCell_other w ⟨b, i, none⟩ k v hb).trans h⟩
theorem info5 : (Tryz.prog.info? 5).map (fun i => (i.zero, i.size, i.bytes)) = some (some (.int .u8 0), 1, 1) := by kernel_rfl
theorem sizeB : (Tryz.prog.info? 56).map (fun i => i.size) = some 2 := by kernel_rfl
set_option maxHeartbeats 1000000 in
set_option maxRecDepth 100000 in
theorem copyCheck_used (b : Nat) (w : World) (h0 : w.cell? ⟨b, 0, none⟩ = some (.pointer (some ⟨b, 0, none⟩))) :
    Calls Tryz.prog 44 #[.pointer (some ⟨b, 0, none⟩)] w fun e w' => e = .returned (.tuple #[]) ∧ w' = w := by
  obtain ⟨j, hj, _⟩ := Option.map_eq_some_iff.1 sizeB
  go_enter Tryz.func44, Tryz.ntmps44
  go_wp2
  rw [Lib.run_neq_ptr_same w _ Tryz.underlying53 hj]
  go_wp2
  go_end0
  exact ⟨rfl, rfl⟩
set_option maxHeartbeats 1000000 in
set_option maxRecDepth 100000 in
theorem copyCheck_fresh (b : Nat) (w : World) (h0 : w.cell? ⟨b, 0, none⟩ = some (.pointer none)) (hsh : w.shape? b = some (56, 2)) (hfz : w.frozen? ⟨b, 0, none⟩ = false) :
    Calls Tryz.prog 44 #[.pointer (some ⟨b, 0, none⟩)] w fun e w' => e = .returned (.tuple #[]) ∧ w' = w.setCell ⟨b, 0, none⟩ (.pointer (some ⟨b, 0, none⟩)) := by
  obtain ⟨j, hj, hjs⟩ := Option.map_eq_some_iff.1 sizeB
  go_enter Tryz.func44, Tryz.ntmps44
  go_wp2
  rw [Lib.run_to_unsafe w ⟨b, 0, none⟩ Tryz.underlying53 Tryz.underlying105 hj (by rw [hjs]; decide) hsh (Nat.zero_lt_succ 1)]
  simp only [Result.andThen]
  rw [Oper.upon_value]
  go_wp2
  rw [run_callFunc_extern Tryz.func69 (by kernel_rfl) (by kernel_rfl) (by kernel_rfl) (e := Extern.AbiNoEscape.same) (by kernel_rfl)]
  rw [Lib.run_noEscape]
  simp only [Result.andThen]
  rw [Oper.upon_value]
  go_wp2
  rw [Lib.run_from_unsafe w ⟨b, 0, none⟩ Tryz.underlying105 Tryz.underlying53 hj hsh (by kernel_rfl)]
  simp only [Result.andThen]
  rw [Oper.upon_value]
  go_wp2
  go_end0
  exact ⟨rfl, rfl⟩
theorem copyCheck_calls (B b : Nat) (bs : List Value) (w : World) (h : Lib.IsBuilder 56 5 B b bs w) :
    Calls Tryz.prog 44 #[.pointer (some ⟨b, 0, none⟩)] w fun e w' => e = .returned (.tuple #[]) ∧ (Lib.BuilderAt 56 5 B b (.pointer (some ⟨b, 0, none⟩)) bs w' ∧ Below B w w' ∧ OK5 b w w') := by
  rcases h with h | h
  · refine (copyCheck_fresh b w h.cell0 h.shape h.frozen0).mono ?_
    rintro e w' ⟨rfl, rfl⟩
    exact ⟨rfl, h.used _, (Below.refl B w).setCell (p := ⟨b, 0, none⟩) h.1 _, OK5.set _ _ _ _⟩
  · refine (copyCheck_used b w h.cell0).mono ?_
    rintro e w' ⟨rfl, rfl⟩
    exact ⟨rfl, h, Below.refl B _, OK5.refl _ _⟩
set_option maxHeartbeats 1000000 in
set_option maxRecDepth 100000 in
theorem writeString_calls (B b : Nat) (bs : List Value) (s : ByteArray) (w : World) (h : Lib.IsBuilder 56 5 B b bs w) (hlen : bs.length + s.size ≤ 140737488355328) (hBw : B ≤ w.heap.size) :
    Calls Tryz.prog 19 #[.pointer (some ⟨b, 0, none⟩), .string s] w fun e w' => e = .returned (.tuple #[.int .i64 s.size, .nilIface]) ∧ Lib.IsBuilder 56 5 B b (bs ++ Lib.strCells s) w' ∧ Below B w w' ∧ OK5 b w w' := by
  obtain ⟨i0, hi, hz0, hz1, hz2⟩ := info_parts info5
  go_enter Tryz.func19, Tryz.ntmps19
  go_wp2_with (go_at_call 44; refine (copyCheck_calls B b bs _ h).mono ?_)
  rintro e w1 ⟨rfl, h1, hb1, hk1⟩
  obtain ⟨hB, v, hbk, hown, hne⟩ := h1
  have HK1 := Lib.hid hk1
  clear hk1
  have c0 : w1.cell? ⟨b, 0, none⟩ = some (.pointer (some ⟨b, 0, none⟩)) := by rw [Lib.cell_of_heap hbk]; rfl
  have c1 : w1.cell? ⟨b, 1, none⟩ = some v := by rw [Lib.cell_of_heap hbk]; rfl
  go_wp2_with (at_builtin; refine Lib.wpList_append_own_string _ rfl _ _ 54 9 rfl B 5 i0 Tryz.underlying54 Tryz.underlying9 hi hz0 hz1 hz2 _ _ _ rfl hown s rfl ?c3 ?c4 ?c5 ?_)
  case c3 => unfold maxLen; omega
  case c4 => omega
  case c5 => have := hb1.size; omega
  intro v' w2 hown' hgrow _
  have hlt : b < w1.heap.size := by
    rcases Nat.lt_or_ge b w1.heap.size with h' | h'
    · exact h'
    · simp [Array.getElem?_eq_none h'] at hbk
  have hb2 : w2.heap[b]? = some (.cells #[.pointer (some ⟨b, 0, none⟩), v] 56 (0, 0)) := by
    rw [hgrow.block b hlt (fun e => hne e.symm)]
    exact hbk
  have d0 : w2.cell? ⟨b, 0, none⟩ = some (.pointer (some ⟨b, 0, none⟩)) := by rw [Lib.cell_of_heap hb2]; rfl
  have d1 : w2.cell? ⟨b, 1, none⟩ = some v := by rw [Lib.cell_of_heap hb2]; rfl
  have f1 : w2.frozen? ⟨b, 1, none⟩ = false := Lib.frozen_of_heap hb2 1
  have hk2 : OK5 b w1 w2 := by
    refine ⟨hgrow.size, fun k o hk hnb hnc => (hgrow.block k (Array.getElem?_eq_some_iff.1 hk).1 fun e => ?_).trans hk⟩
    rcases hown.2 with ⟨rfl, _⟩ | ⟨g, cap, cur, rfl, _, hg, _⟩
    · simp [Value.ownBlock] at e
    · have : k = g := by simpa [Value.ownBlock] using e
      subst this
      rw [hk] at hg
      exact hnc _ _ (Option.some.inj hg)
  have HK2 := Lib.hid hk2
  clear hk2
  obtain ⟨ao, n', cap, rfl⟩ : ∃ ao n' cap, v' = .slice ao n' cap := by
    rcases hown'.2 with ⟨hv, _⟩ | ⟨g, cap, cur, hv, _⟩
    · exact ⟨_, _, _, hv⟩
    · exact ⟨_, _, _, hv⟩
  go_wp2
  go_ret2
  refine ⟨rfl, .inr ?_, ?_, (HK1.out.trans HK2.out).trans (OK5.set _ _ _ _)⟩
  · exact Lib.BuilderAt.put (T := 56) (e := 5) hB hb2 (bs' := bs ++ Lib.strCells s) (by simpa [Lib.strCells_length] using hown') (by decide)
  · exact (hb1.grown hgrow (by have := hb1.size; omega) (fun k hk => (hown.lt k hk).1)).setCell (p := ⟨b, 1, none⟩) hB _
theorem isBuilder_below {B b : Nat} {bs : List Value} {w w' : World} (h : Lib.IsBuilder 56 5 B b bs w) (hb : Below w.heap.size w w') : Lib.IsBuilder 56 5 B b bs w' := by
  have go : ∀ {p : Value}, Lib.BuilderAt 56 5 B b p bs w → Lib.BuilderAt 56 5 B b p bs w' := by
    rintro p ⟨h1, v, h2, h3, h4⟩
    exact ⟨h1, v, row_kept hb h2, h3.kept (grown_bel hb) (by cases v.ownBlock <;> simp), h4⟩
  rcases h with h | h
  · exact .inl (go h)
  · exact .inr (go h)
def Inss (W : World) (v : Value) (l : List IR) : Prop :=
  ∃ A c, v = .slice A l.length c ∧ (l ≠ [] → ∃ b off, A = some ⟨b, off, none⟩ ∧ ∀ (j : Nat) (i : IR), l[j]? = some i → ∀ (k : Nat) (u : Value), (irC i)[k]? = some u → W.cell? ⟨b, off + j * 7 + k, none⟩ = some u)
theorem Inss.below {W W' : World} {v : Value} {l : List IR} (h : Inss W v l) (hb : Below W.heap.size W W') : Inss W' v l := by
  obtain ⟨A, c, e, h⟩ := h
  refine ⟨A, c, e, fun hn => ?_⟩
  obtain ⟨b, off, e2, h2⟩ := h hn
  exact ⟨b, off, e2, fun j i hj k u hk => cell_be hb (h2 j i hj k u hk)⟩
def lineP (i : IR) : List UInt8 := if insS i = [] then [] else insS i ++ [10]
def textP (l : List IR) : List UInt8 := l.flatMap lineP
theorem textP_snoc (l : List IR) (i : IR) : textP (l ++ [i]) = textP l ++ lineP i := by simp [textP]
theorem insS_len (i : IR) : (insS i).length ≤ 110 := by
  unfold insS
  split
  · rename_i h
    have h1 := nm5_len i.op h.1
    have h2 := restS_len h
    unfold insB
    rw [List.length_append]
    split
    · simp; omega
    · simp; omega
  · simp
theorem lineP_len (i : IR) : (lineP i).length ≤ 111 := by
  have := insS_len i
  unfold lineP
  split
  · simp
  · rw [List.length_append]; simp; omega
theorem textP_len (l : List IR) : (textP l).length ≤ 111 * l.length := by
  induction l with
  | nil => simp [textP]
  | cons i l ih =>
    have := lineP_len i
    simp only [textP, List.flatMap_cons, List.length_append, List.length_cons] at ih ⊢
    omega
set_option maxHeartbeats 4000000 in
set_option maxRecDepth 100000 in
theorem Print_calls (v : Value) (l : List IR) (w : World) (hv : Inss w v l) (hl : l.length ≤ 100000) (hG : GlobT w) : Calls Tryz.prog 8 #[v] w fun e w' => e = .returned (.string ⟨(textP l).toArray⟩) ∧ Below w.heap.size w w' := by
  have HV := Lib.hid hv
  obtain ⟨A, c, rfl, hcells⟩ := hv
  have HG := Lib.hid hG
  have HC := Lib.hid hcells
  have HL := Lib.hid hl
  clear hcells hG
  go_enter Tryz.func8, Tryz.ntmps8
  go_wp2
  go_loopw [9] (fun a wr => ∃ j : Nat, a = .int .i64 j ∧ j ≤ l.length ∧ Lib.IsBuilder 56 5 w.heap.size w.heap.size (Lib.byteCells (textP (l.take j))) wr ∧ Below w.heap.size w wr) (fun a _ => l.length - (intOf a).toNat)
  case atStart =>
    exact ⟨0, rfl, by omega, Lib.fresh_isBuilder 56 5 w, (Below.refl _ w).alloc (Nat.le_refl _) _⟩
  case round =>
    obtain ⟨j, rfl, hj, hI, hB⟩ := hrel
    by_cases hlt : j < l.length
    · obtain ⟨i, hi⟩ : ∃ i, l[j]'hlt = i := ⟨_, rfl⟩
      have hi' : l[j]? = some i := by rw [List.getElem?_eq_getElem hlt, hi]
      obtain ⟨b, off, rfl, hcs⟩ := HC.out (fun e => by rw [e] at hlt; simp at hlt)
      have hc := hcs j i hi'
      have x0 := cell_be hB (hc 0 (.int .i64 i.op) rfl)
      have x1 := cell_be hB (hc 1 (.int .i64 i.d) rfl)
      have x2 := cell_be hB (hc 2 (.int .i64 i.n) rfl)
      have x3 := cell_be hB (hc 3 (.int .i64 i.m) rfl)
      have x4 := cell_be hB (hc 4 (.int .i64 i.a) rfl)
      have x5 := cell_be hB (hc 5 (.int .i64 i.cond) rfl)
      have x6 := cell_be hB (hc 6 (.int .i64 i.imm) rfl)
      have HT : Hid (textP (l.take (j + 1)) = textP (l.take j) ++ lineP i) := Lib.hid (by rw [List.take_add_one, hi', Option.toList, textP_snoc])
      have hlp := textP_len (l.take j)
      have htl : (l.take j).length ≤ 100000 := by rw [List.length_take]; omega
      have hil := insS_len i
      obtain ⟨ti, hti⟩ : ∃ ti : ByteArray, (⟨(insS i).toArray⟩ : ByteArray) = ti := ⟨_, rfl⟩
      have htz : ti.size ≤ 110 := by rw [← hti]; show (insS i).toArray.size ≤ 110; rw [List.size_toArray]; exact hil
      have HIns := Lib.hid (fun W hW => Ins_calls i W hW)
      rw [hti] at HIns
      have HGr := Lib.hid (HG.out.below hB)
      have HBl := Lib.hid hB
      have HIb := Lib.hid hI
      have HLI := Lib.hid (show (Lib.byteCells (textP (l.take j))).length ≤ 20000000 by rw [Lib.byteCells_length]; omega)
      obtain ⟨io, id, ii, im, ia, ic, iz⟩ := i
      clear hc hcs hI hi hi' HC hlp htl hil hB
      unfold irC at HIns
      dsimp only at HIns x0 x1 x2 x3 x4 x5 x6
      simp only [Nat.add_zero] at x0
      have HX := Lib.hid (heap_alloc_new wr (.cells #[.int .i64 io, .int .i64 id, .int .i64 ii, .int .i64 im, .int .i64 ia, .int .i64 ic, .int .i64 iz] 39))
      by_cases hne : insS ⟨io, id, ii, im, ia, ic, iz⟩ = []
      · have te : ti = ⟨#[]⟩ := by rw [← hti, hne]
        have HT2 : Hid (textP (l.take (j + 1)) = textP (l.take j)) := Lib.hid (by rw [HT.out, lineP, if_pos hne, List.append_nil])
        subst te
        clear hti
        go_wp2_with (first | (go_at_call 14; refine (HIns.out _ (HGr.out.below ((Below.refl _ _).alloc (Nat.le_refl _) _))).mono ?_; rintro e V1 ⟨rfl, hv1⟩; have HB1 := Lib.hid (((Below.refl _ wr).alloc (Nat.le_refl _) _).trans (hv1.mono (by simp))); clear hv1) | fail)
        go_roundw
        case rel =>
          refine ⟨j + 1, (by rw [show ((j + 1 : Nat) : Int) = j + 1 by omega]), by omega, ?_, HBl.out.trans (HB1.out.mono HBl.out.size)⟩
          rw [HT2.out]; exact isBuilder_below HIb.out HB1.out
        case measure => simp only [intOf]; omega
      · have te1 : ¬ ti.toList = [] := by rw [be_list, ← hti]; simpa using hne
        have te2 : (ti.toList != ([] : List UInt8)) = true := by rw [bne_iff_ne]; exact te1
        have te3 : (ti.toList == ([] : List UInt8)) = false := by rw [beq_eq_false_iff_ne]; exact te1
        have te4 : ti.toList.isEmpty = false := by cases h : ti.toList with
          | nil => exact absurd h te1
          | cons => rfl
        obtain ⟨tn, htn⟩ : ∃ tn : ByteArray, ti ++ (⟨#[10]⟩ : ByteArray) = tn := ⟨_, rfl⟩
        have htnz : tn.size ≤ 111 := by
          rw [← htn, ByteArray.size_append]
          show ti.size + 1 ≤ 111
          omega
        have HT2 : Hid (Lib.byteCells (textP (l.take (j + 1))) = Lib.byteCells (textP (l.take j)) ++ Lib.strCells tn) := Lib.hid (by
          rw [HT.out, lineP, if_neg hne, ← htn, ← hti, show (⟨#[10]⟩ : ByteArray) = ⟨[10].toArray⟩ from rfl, ba_app]
          simp [Lib.byteCells, Lib.strCells])
        have HTN := Lib.hid htn
        have HWr : Hid (∀ W, Lib.IsBuilder 56 5 w.heap.size w.heap.size (Lib.byteCells (textP (l.take j))) W → w.heap.size ≤ W.heap.size → Calls Tryz.prog 19 #[.pointer (some ⟨w.heap.size, 0, none⟩), .string tn] W fun e w' => (∃ u, e = .returned u) ∧ Lib.IsBuilder 56 5 w.heap.size w.heap.size (Lib.byteCells (textP (l.take (j + 1)))) w' ∧ Below w.heap.size W w') := by
          refine Lib.hid fun W h1 h2 => (writeString_calls w.heap.size w.heap.size _ tn W h1 (by have := HLI.out; omega) h2).mono ?_
          rintro e w' ⟨rfl, h3, h4, -⟩
          exact ⟨⟨_, rfl⟩, by rw [HT2.out]; exact h3, h4⟩
        clear hti htn
        go_wp2_with (first | (go_at_call 14; refine (HIns.out _ (HGr.out.below ((Below.refl _ _).alloc (Nat.le_refl _) _))).mono ?_; rintro e V1 ⟨rfl, hv1⟩; have HB1 := Lib.hid (((Below.refl _ wr).alloc (Nat.le_refl _) _).trans (hv1.mono (by simp))); clear hv1) | (go_at_call 19; rw [HTN.out]; refine (HWr.out _ (isBuilder_below HIb.out HB1.out) (Nat.le_trans HBl.out.size HB1.out.size)).mono ?_; rintro e V2 ⟨⟨u, rfl⟩, hb2, hv2⟩; have HB2 := Lib.hid (And.intro hb2 hv2); clear hb2 hv2) | fail)
        go_roundw
        case rel => exact ⟨j + 1, (by rw [show ((j + 1 : Nat) : Int) = j + 1 by omega]), by omega, HB2.out.1, (HBl.out.trans (HB1.out.mono HBl.out.size)).trans HB2.out.2⟩
        case measure => simp only [intOf]; omega
    · have hjl : j = l.length := by omega
      subst hjl
      rw [List.take_length] at hI
      have HBl := Lib.hid hB
      have HIb := Lib.hid hI
      have HS : Hid (∀ W, Lib.IsBuilder 56 5 w.heap.size w.heap.size (Lib.byteCells (textP l)) W → w.heap.size ≤ W.heap.size → Calls Tryz.prog 20 #[.pointer (some ⟨w.heap.size, 0, none⟩)] W fun e w' => e = .returned (.string ⟨(textP l).toArray⟩) ∧ Below w.heap.size W w') := Lib.hid (fun W h1 h2 => Tryz.Builder_String_any w.heap.size w.heap.size (textP l) W h1 h2)
      clear hI hB
      go_wp2_with (first | (go_at_call 20; refine (HS.out _ HIb.out HBl.out.size).mono ?_; rintro e V3 ⟨rfl, hv3⟩) | fail)
      go_ret
      exact ⟨rfl, HBl.out.trans hv3⟩
end Go.Proofs.YtkphijabhoppnaaGreatDoor
