/- A line read (brazier/text.Parse). -/
import Derived.Test.YtkphijabhoppnaaGreatDoorALo
import Derived.Deep.RegionWith
import Derived.Sort.QuietIn
import Derived.Deep.CutRange
import Derived.Sort.CutIn
import Derived.Stop.RegionWithIn
namespace Go.Proofs.YtkphijabhoppnaaGreatDoor
open Go.RowKit Go.Shelf Go.Proofs.YtkphijabhoppnaaGreatDoorW.PrintWords
open Go.Proofs.YtkphijabhoppnaaGreatDoor.PTextPrograms
set_option linter.unusedSimpArgs false
set_option linter.unusedVariables false
attribute [local go_sem] Oper.semAt_some
theorem readP_zip : ∀ (cs : List UInt8) (ss : List (List UInt8)) (j : IR), readP cs ss j = (cs.zip ss).foldl (fun j x => setF j x.1 (numV x.2)) j := by
  intro cs
  induction cs with
  | nil => intro ss j; rfl
  | cons c cs ih =>
    intro ss j
    cases ss with
    | nil => rfl
    | cons s ss => rw [readP, ih]; rfl
def readJ (op : Int) (l : List (List UInt8)) (k : Nat) : IR := (((pT op).zip l).take k).foldl (fun j x => setF j x.1 (numV x.2)) (i0 op)
theorem readJ_succ (op : Int) (l : List (List UInt8)) (k : Nat) (h1 : k < (pT op).length) (h2 : k < l.length) : readJ op l (k + 1) = setF (readJ op l k) ((pT op)[k]'h1) (numV (l[k]'h2)) := by
  unfold readJ
  have hz : k < ((pT op).zip l).length := by rw [List.length_zip]; omega
  rw [List.take_add_one, List.getElem?_eq_getElem hz, Option.toList, List.foldl_append]
  simp
theorem readJ_all (op : Int) (l : List (List UInt8)) (k : Nat) (h : (pT op).length ≤ k ∨ l.length ≤ k) : readJ op l k = readP (pT op) l (i0 op) := by
  unfold readJ
  rw [List.take_of_length_le (by rw [List.length_zip]; omega), ← readP_zip]
def restB (s : ByteArray) : ByteArray := ⟨(Lib.cut s.data.toList [32]).2.1.toArray⟩
def pieB (s : ByteArray) : List ByteArray := Lib.splitB ⟨#[44, 32]⟩ 0 (Lib.countB (restB s) ⟨#[44, 32]⟩) (restB s)
theorem pieB_data (s : ByteArray) : (pieB s).map (·.data.toList) = piecesS s.data.toList := by
  unfold pieB
  rw [Lib.splitB_data]
  rfl
theorem pieB_len (s : ByteArray) : (pieB s).length = Lib.countB (restB s) ⟨#[44, 32]⟩ + 1 := Lib.splitB_all ⟨#[44, 32]⟩ (by decide) 0 _ (restB s) rfl
theorem restB_size (s : ByteArray) : (restB s).size ≤ s.size := by
  show (Lib.cut s.data.toList [32]).2.1.toArray.size ≤ s.data.size
  rw [List.size_toArray, ← Array.length_toList]
  unfold Lib.cut
  split
  · simp
  · simp
theorem splitK_len (sep : List UInt8) : ∀ (k : Nat) (s : List UInt8), ∀ x ∈ Lib.splitK sep 0 k s, x.length ≤ s.length := by
  intro k
  induction k with
  | zero => intro s x hx; simp [Lib.splitK] at hx; subst hx; omega
  | succ k ih =>
    intro s x hx
    rw [Lib.splitK] at hx
    split at hx
    · simp at hx; subst hx; omega
    · rcases List.mem_cons.1 hx with rfl | hx
      · simp; omega
      · have := ih _ x hx
        simp at this; omega
theorem pieB_size (s : ByteArray) : ∀ x ∈ pieB s, x.size ≤ s.size := by
  intro x hx
  have h1 : x.data.toList ∈ (pieB s).map (·.data.toList) := List.mem_map_of_mem hx
  unfold pieB at h1
  rw [Lib.splitB_data] at h1
  have h2 := splitK_len _ _ _ _ h1
  have h3 := restB_size s
  have h4 : (restB s).data.toList.length = (restB s).size := by rw [Array.length_toList]; rfl
  show x.data.size ≤ _
  rw [← Array.length_toList]
  omega
theorem countB_bound (s : ByteArray) (h : s.size ≤ 1000000) : Lib.countB (restB s) ⟨#[44, 32]⟩ ≤ 1000000 := by
  have := Lib.countB_le ⟨#[44, 32]⟩ (by decide) _ (restB s) (Nat.le_refl _)
  have := restB_size s
  omega
theorem setCell_rowk {W : World} {g k : Nat} {cs : Array Value} {t : TypeId} {fr : Nat × Nat} (h : W.heap[g]? = some (Obj.cells cs t fr)) (u : Value) :
    (W.setCell ⟨g, k, none⟩ u).heap[g]? = some (.cells (cs.setIfInBounds k u) t fr) := by
  obtain ⟨hlt, hk⟩ := Array.getElem?_eq_some_iff.1 h
  show (W.heap.modify g _)[g]? = _
  rw [Array.getElem?_eq_getElem (by rw [Array.size_modify]; exact hlt), Array.getElem_modify_self, hk]
  rfl
theorem heap_setCell_ne (W : World) (g k j : Nat) (u : Value) (h : j ≠ g) : (W.setCell ⟨g, k, none⟩ u).heap[j]? = W.heap[j]? := heap_setCell_other _ ⟨g, k, none⟩ j _ h
structure PrS (Bi IT : Nat) (A : World) (s : ByteArray) (pos : Nat) (j : IR) (V : World) : Prop where
  bi : V.heap[Bi]? = some (Obj.cells (irC j) 39 (0, 0))
  it : V.heap[IT]? = some (.stringIter s pos)
  below : Below Bi A V
  lt : Bi < IT
theorem PrS.later {Bi IT : Nat} {A V V' : World} {s : ByteArray} {pos : Nat} {j : IR} (h : PrS Bi IT A s pos j V) (hb : Below V.heap.size V V') : PrS Bi IT A s pos j V' :=
  ⟨row_kept hb h.bi, row_kept hb h.it, h.below.trans (hb.mono (Nat.le_of_lt (Array.getElem?_eq_some_iff.1 h.bi).1)), h.lt⟩
theorem PrS.next {Bi IT : Nat} {A V : World} {s : ByteArray} {pos : Nat} {j : IR} (h : PrS Bi IT A s pos j V) (p : Nat) : PrS Bi IT A s p j (V.iterAt IT s p) :=
  ⟨(Lib.iterAt_other V IT Bi s p (Nat.ne_of_lt h.lt)).trans h.bi, Lib.iterAt_heap V IT s pos p h.it, Lib.below_iterAt h.below (Nat.le_of_lt h.lt) s p, h.lt⟩
theorem PrS.set {Bi IT : Nat} {A V : World} {s : ByteArray} {pos : Nat} {j : IR} (h : PrS Bi IT A s pos j V) (k : Nat) (u : Value) (j' : IR) (hj : (irC j).setIfInBounds k u = irC j') : PrS Bi IT A s pos j' (V.setCell ⟨Bi, k, none⟩ u) :=
  ⟨by rw [← hj]; exact setCell_rowk h.bi u, (heap_setCell_ne V Bi k IT u (Nat.ne_of_gt h.lt)).trans h.it, h.below.setCell (p := ⟨Bi, k, none⟩) (Nat.le_refl _) _, h.lt⟩
theorem results_rc {fn : Func} {p0 p1 t0 t1 : Nat} {tmps : Array Value} {V : World} {B0 B1 : Nat} {cs : Array Value} {v1 : Value} (h : fn.results = #[.cell p0 t0, .cell p1 t1])
    (e0 : tmps.getD p0 undef = .pointer (some ⟨B0, 0, none⟩)) (e1 : tmps.getD p1 undef = .pointer (some ⟨B1, 0, none⟩))
    (l0 : (loadVar t0 ⟨B0, 0, none⟩).run Tryz.prog V = .ok (.agg cs) V) (l1 : (loadVar t1 ⟨B1, 0, none⟩).run Tryz.prog V = .ok v1 V) :
    (results fn tmps).run Tryz.prog V = .ok (.tuple #[.agg cs, v1]) V := by
  have q0 : tmps[p0]?.getD undef = .pointer (some ⟨B0, 0, none⟩) := by simpa using e0
  have q1 : tmps[p1]?.getD undef = .pointer (some ⟨B1, 0, none⟩) := by simpa using e1
  simp [results, h, q0, q1, asAddr, l0, l1]
theorem row_put {W : World} {D g : Nat} {o : Obj} (hK : W.heap[D]? = some (.deferred (some []))) (h : W.heap[g]? = some o) (hc : o.isCells = true) : (W.putObj D (.deferred none)).heap[g]? = some o := by
  refine (World.putObj_heap_other (fun e => ?_)).trans h
  subst e
  rw [hK] at h
  cases h
  cases hc
theorem cut_calls (s : ByteArray) (w : World) (hG : GlobT w) (hs : s.size ≤ 1000000) :
    Calls Tryz.prog 17 #[.string s, .string ⟨#[32]⟩] w fun e w' => ∃ x, e = .returned (.tuple #[.string ⟨(wordS s.data.toList).toArray⟩, .string (restB s), .bool x]) ∧ ∃ n, w' = w.drewN n := by
  obtain ⟨m, hm⟩ := hG.mx
  refine (Any.strings_Cut (P := Tryz.prog) (ρ := Tryz.laysM145_ren) { Tryz.laysM145 with } s ⟨#[32]⟩ m w (by omega) hm).mono ?_
  rintro e w' ⟨rfl, n, rfl⟩
  exact ⟨_, rfl, n, rfl⟩
theorem split_calls (s : ByteArray) (w : World) (hG : GlobT w) (hs : s.size ≤ 1000000) :
    Calls Tryz.prog 25 #[.string (restB s), .string ⟨#[44, 32]⟩] w fun e w' => e = .returned (.slice (some ⟨w.heap.size, 0, none⟩) (Lib.countB (restB s) ⟨#[44, 32]⟩ + 1) (Lib.countB (restB s) ⟨#[44, 32]⟩ + 1)) ∧ w' = w.alloc (.cells ((pieB s).map Value.string).toArray 9) := by
  obtain ⟨m, hm⟩ := hG.mx
  have := restB_size s
  exact Any.strings_Split (P := Tryz.prog) (ρ := Tryz.laysM146_ren) { Tryz.laysM146 with } (by kernel_rfl) (restB s) ⟨#[44, 32]⟩ m w (by omega) hm (by decide)
theorem heap_alloc_eq' (w : World) (o : Obj) : (w.alloc o).heap = w.heap.push o := rfl
theorem drewN_heap' (w : World) (n : Nat) : (w.drewN n).heap = w.heap := rfl
theorem others_bel {A B : World} (h : Below A.heap.size A B) : KeepsOthers A B := ⟨h.size, fun k o hk _ => row_kept h hk⟩
theorem put7 {Z : World} {B : Nat} {j0 : IR} (h : Z.heap[B]? = some (Obj.cells (irC j0) 39 (0, 0))) (o d n m a c i : Int) (Z' : World)
    (hZ : ((((((Z.setCell ⟨B, 0, none⟩ (.int .i64 o)).setCell ⟨B, 1, none⟩ (.int .i64 d)).setCell ⟨B, 2, none⟩ (.int .i64 n)).setCell ⟨B, 3, none⟩ (.int .i64 m)).setCell ⟨B, 4, none⟩ (.int .i64 a)).setCell ⟨B, 5, none⟩ (.int .i64 c)).setCell ⟨B, 6, none⟩ (.int .i64 i) = Z') :
    Z'.heap[B]? = some (Obj.cells (irC ⟨o, d, n, m, a, c, i⟩) 39 (0, 0)) ∧ (∀ k, k ≠ B → Z'.heap[k]? = Z.heap[k]?) ∧ KeepsOthers Z Z' ∧ (∀ (N : Nat) (A : World), N ≤ B → Below N A Z → Below N A Z') := by
  subst hZ
  refine ⟨?_, fun k hk => ?_, ?_, fun N A hN hb => ?_⟩
  · have e : (((((((irC j0).setIfInBounds 0 (.int .i64 o)).setIfInBounds 1 (.int .i64 d)).setIfInBounds 2 (.int .i64 n)).setIfInBounds 3 (.int .i64 m)).setIfInBounds 4 (.int .i64 a)).setIfInBounds 5 (.int .i64 c)).setIfInBounds 6 (.int .i64 i) = irC ⟨o, d, n, m, a, c, i⟩ := by simp [irC]
    rw [← e]
    exact setCell_rowk (setCell_rowk (setCell_rowk (setCell_rowk (setCell_rowk (setCell_rowk (setCell_rowk h _) _) _) _) _) _) _
  · simp only [heap_setCell_ne _ _ _ _ _ hk]
  · exact ((((((KeepsOthers.setCell _ _ _).trans (KeepsOthers.setCell _ _ _)).trans (KeepsOthers.setCell _ _ _)).trans (KeepsOthers.setCell _ _ _)).trans (KeepsOthers.setCell _ _ _)).trans (KeepsOthers.setCell _ _ _)).trans (KeepsOthers.setCell _ _ _)
  · exact ((((((hb.setCell (p := ⟨B, 0, none⟩) hN _).setCell (p := ⟨B, 1, none⟩) hN _).setCell (p := ⟨B, 2, none⟩) hN _).setCell (p := ⟨B, 3, none⟩) hN _).setCell (p := ⟨B, 4, none⟩) hN _).setCell (p := ⟨B, 5, none⟩) hN _).setCell (p := ⟨B, 6, none⟩) hN _
theorem frz7 {W : World} {g : Nat} {cs : Array Value} (h : W.heap[g]? = some (Obj.cells cs 39 (0, 0))) :
    W.frozen? ⟨g, 0, none⟩ = false ∧ W.frozen? ⟨g, 1, none⟩ = false ∧ W.frozen? ⟨g, 2, none⟩ = false ∧ W.frozen? ⟨g, 3, none⟩ = false ∧ W.frozen? ⟨g, 4, none⟩ = false ∧ W.frozen? ⟨g, 5, none⟩ = false ∧ W.frozen? ⟨g, 6, none⟩ = false :=
  ⟨Lib.frozen_of_heap h 0, Lib.frozen_of_heap h 1, Lib.frozen_of_heap h 2, Lib.frozen_of_heap h 3, Lib.frozen_of_heap h 4, Lib.frozen_of_heap h 5, Lib.frozen_of_heap h 6⟩
def ParPost (w : World) (line : List UInt8) (e : Ending) (w' : World) : Prop :=
  ∃ (r : IR) (f : Int), e = .returned (.tuple #[.agg (irC r), .int .i64 f]) ∧
    ((∃ op : Nat, op < 43 ∧ nm5 (op : Int) = wordS line ∧ r = readI op line ∧ insS r = line ∧ f = 0) ∨ ((∀ op : Nat, op < 43 → nm5 (op : Int) = wordS line → insS (readI op line) ≠ line) ∧ r = i0 0 ∧ f = 5)) ∧ Below w.heap.size w w'
def lastOp (pre : List (Fin 43)) : Int := ((pre.getLast?.map fun x => (x.val : Int)).getD 0)
theorem lastOp_snoc (pre : List (Fin 43)) (x : Fin 43) : lastOp (pre ++ [x]) = (x.val : Int) := by simp [lastOp]
def Hit (line : List UInt8) (op : Nat) : Prop := nm5 (op : Int) = wordS line ∧ insS (readI op line) = line
structure PaS (w : World) (s wd : ByteArray) (np : Nat) (W : World) : Prop where
  b0 : Boxed W w.heap.size 9 (.string s)
  b1 : W.heap[w.heap.size + 1]? = some (Obj.cells (irC (i0 0)) 39 (0, 0))
  b2 : Boxed W (w.heap.size + 2) 33 (.int .i64 0)
  b3 : Boxed W (w.heap.size + 3) 9 (.string wd)
  b4 : W.heap[w.heap.size + 4]? = some (Obj.cells ((pieB s).map Value.string).toArray 9 (0, 0))
  b5 : Boxed W (w.heap.size + 5) 67 (.slice (some ⟨w.heap.size + 4, 0, none⟩) (np + 1) (np + 1))
  below : Below w.heap.size w W
  size : w.heap.size + 6 ≤ W.heap.size
theorem PaS.kept {w : World} {s wd : ByteArray} {np : Nat} {W W' : World} (h : PaS w s wd np W) (hb : Below (w.heap.size + 6) W W') : PaS w s wd np W' :=
  ⟨row_kept' hb (by omega) h.b0, row_kept' hb (by omega) h.b1, row_kept' hb (by omega) h.b2, row_kept' hb (by omega) h.b3, row_kept' hb (by omega) h.b4, row_kept' hb (by omega) h.b5, h.below.trans (hb.mono (by omega)), Nat.le_trans h.size hb.size⟩
theorem PaS.later {w : World} {s wd : ByteArray} {np : Nat} {W W' : World} (h : PaS w s wd np W) (hb : Below W.heap.size W W') : PaS w s wd np W' := h.kept (hb.mono h.size)
theorem paS_own (B : Nat) (w : World) (s wd : ByteArray) (np : Nat) (hB : w.heap.size + 6 ≤ B) : OwnFrom B (fun (_ : List (Fin 43)) W => PaS w s wd np W) := by
  intro pre X Y row h hg hr
  exact h.kept ⟨hg.os, hg.tape, hg.output, hg.size, fun k hk => hg.block k (by have := h.size; omega) (fun e => by have := (hr k e.symm).1; omega)⟩
set_option maxHeartbeats 4000000 in
set_option maxRecDepth 100000 in
theorem Parse_calls (s : ByteArray) (w : World) (hG : GlobT w) (hs : s.size ≤ 1000000) : Calls Tryz.prog 13 #[.string s] w (ParPost w s.data.toList) := by
  have HG := Lib.hid hG
  have HCut := Lib.hid (fun W hW => cut_calls s W hW hs)
  have HSp := Lib.hid (fun W hW => split_calls s W hW hs)
  have HO := Lib.hid (fun W => ops_calls W)
  have hcb := countB_bound s hs
  have hpl := pieB_len s
  obtain ⟨np, hnp⟩ : ∃ np, Lib.countB (restB s) ⟨#[44, 32]⟩ = np := ⟨_, rfl⟩
  rw [hnp] at HSp hcb hpl
  obtain ⟨rs, hrs⟩ : ∃ rs, restB s = rs := ⟨_, rfl⟩
  rw [hrs] at HSp HCut
  obtain ⟨wd, hwd⟩ : ∃ wd : ByteArray, (⟨(wordS s.data.toList).toArray⟩ : ByteArray) = wd := ⟨_, rfl⟩
  rw [hwd] at HCut
  clear hG hnp hrs
  refine (callsIn_wide (n := 6)).1 ?_
  refine callsIn_of_wp_marks Tryz.func13 rfl trivial ?_ rfl
  simp only [Tryz.ntmps13, List.size_toArray, List.length_cons, List.length_nil, Nat.reduceAdd, Nat.reduceSub, Array.replicate_succ, Array.replicate_zero, List.push_toArray, List.append_toArray, List.nil_append, List.cons_append]
  refine wpIn_wide.2 ?_
  go_wp2_with (first | (go_at_call 17; refine (HCut.out _ (HG.out.below ((((Below.refl _ w).alloc (Nat.le_refl _) _).alloc (by simp) _).alloc (by simp; omega) _))).mono ?_; rintro e w4 ⟨x, rfl, n, rfl⟩) | (go_at_call 25; refine (HSp.out _ (HG.out.below ((below_drewN0 ((((Below.refl _ w).alloc (Nat.le_refl _) _).alloc (by simp) _).alloc (by simp; omega) _) _).alloc (by simp; omega) _))).mono ?_; rintro e w5 ⟨rfl, rfl⟩) | (go_at_call 26; refine (HO.out _).mono ?_; rintro e w5 ⟨rfl, rfl⟩) | fail)
  simp only [Nat.add_assoc, Nat.reduceAdd]
  obtain ⟨W0, hW0⟩ : ∃ W0, (((((((w.alloc (Obj.cells #[Value.string s] 9)).alloc (Obj.cells #[Value.int IntKind.i64 0, Value.int IntKind.i64 0, Value.int IntKind.i64 0, Value.int IntKind.i64 0, Value.int IntKind.i64 0, Value.int IntKind.i64 0, Value.int IntKind.i64 0] 39)).alloc
    (Obj.cells #[Value.int IntKind.i64 0] 33)).drewN n).alloc (Obj.cells #[Value.string wd] 9)).alloc (Obj.cells (List.map Value.string (pieB s)).toArray 9)).alloc (Obj.cells #[Value.slice (some { block := w.heap.size + 4, off := 0 }) (np + 1) (np + 1)] 67)) = W0 := ⟨_, rfl⟩
  have h0 : PaS w s wd np W0 := by
    rw [← hW0]
    refine ⟨?_, ?_, ?_, ?_, ?_, ?_, ?_, ?_⟩
    · unfold Boxed; simp [heap_alloc_eq', Array.getElem_push, Nat.add_assoc, drewN_heap']
    · simp [heap_alloc_eq', Array.getElem_push, Nat.add_assoc, drewN_heap', irC, i0]
    · unfold Boxed; simp [heap_alloc_eq', Array.getElem_push, Nat.add_assoc, drewN_heap']
    · unfold Boxed; simp [heap_alloc_eq', Array.getElem_push, Nat.add_assoc, drewN_heap']
    · simp [heap_alloc_eq', Array.getElem_push, Nat.add_assoc, drewN_heap']
    · unfold Boxed; simp [heap_alloc_eq', Array.getElem_push, Nat.add_assoc, drewN_heap']
    · exact (((below_drewN0 ((((Below.refl _ w).alloc (Nat.le_refl _) _).alloc (by simp) _).alloc (by simp; omega) _) _).alloc (by simp; omega) _).alloc (by simp; omega) _).alloc (by simp; omega) _
    · simp
  have hz : W0.heap.size = w.heap.size + 6 := by rw [← hW0]; simp
  rw [hW0]
  clear hW0
  have h00 := And.intro h0 (show ∀ y ∈ ([] : List (Fin 43)), ¬ Hit s.data.toList y.val by simp)
  refine (wpIn_wide (n := 6)).1 ?_
  refine rangeFunc_fr rfl (by omega) (gf := 53) (lb := #[]) rfl trivial (enters_of Tryz.func53 (by kernel_rfl) rfl)
    (ops_stops _ (by omega) W0) (fun _ _ => trivial) (fun _ _ _ _ _ _ _ _ => trivial) (Below.refl _ _) (fun _ => rfl)
    (fun pre W => PaS w s wd np W ∧ ∀ y ∈ pre, ¬ Hit s.data.toList y.val)
    (fun c pre W => ((W.heap[w.heap.size + 1]? = some (Obj.cells (irC (readI (lastOp pre) s.data.toList)) 39 (0, 0)) ∧ Boxed W (w.heap.size + 2) 33 (.int .i64 0)) ∧ (Below w.heap.size w W ∧ w.heap.size + 6 ≤ W.heap.size)) ∧ (c = .ret ∧ ∃ op : Nat, op < 43 ∧ lastOp pre = op ∧ Hit s.data.toList op))
    ?hI ?hIx h00 (fun x b W => True) (fun _ _ _ _ _ _ _ _ _ => trivial) (fun x b a => (a.setIfInBounds 22 (.int .i64 x.val)).setIfInBounds 8 (.int .i64 x.val)) ?assign ?body ?done ?stop
  case hI => exact OwnFrom.and (paS_own _ _ _ _ _ (by omega)) (ownFrom_pure _ _)
  case hIx =>
    exact fun c => OwnFrom.and (OwnFrom.and (OwnFrom.and (Own.from (row_own _ (fun pre : List (Fin 43) => irC (readI (lastOp pre) s.data.toList)) _) _) (Own.from (boxed_own _ _ _) _)) (OwnFrom.and (ownFrom_below (Nat.le_refl _) (by omega)) (fun s A B row hs hg hr => Nat.le_trans hs hg.size))) (ownFrom_pure _ _)
  case assign =>
    rintro q pre x W K hI hK
    dsimp only [opE]
    gi_wp2
    exact hK 0 W (KeepsFrom.refl _ _) trivial hI trivial
  case body =>
    rintro q pre x b W hq ⟨r, hr⟩ ⟨P0, ho⟩ - hlt
    have hx := x.2
    obtain ⟨nx, hnx⟩ : ∃ nx : Nat, x.val = nx := ⟨_, rfl⟩
    rw [hnx] at hx
    have HX := Lib.hid hnx
    have HH := Lib.hid ho
    obtain ⟨nb, hnb⟩ : ∃ nb : ByteArray, (⟨(nm5 (nx : Int)).toArray⟩ : ByteArray) = nb := ⟨_, rfl⟩
    have HNm : Hid (∀ W, GlobT W → Calls Tryz.prog 27 #[.int .i64 nx] W fun e w' => e = .returned (.string nb) ∧ Below W.heap.size W w') := Lib.hid (fun W hW => hnb ▸ Name_calls nx hx W hW)
    have HP0 := Lib.hid P0
    have c3 := P0.b3.cell
    have HGW := Lib.hid (HG.out.below P0.below)
    have HQ := Lib.hid hr
    clear ho P0 hr
    simp only [List.setIfInBounds_toArray, List.set_cons_succ, List.set_cons_zero, hnx]
    by_cases hn : nm5 (nx : Int) = wordS s.data.toList
    · have hnw : nb = wd := by rw [← hnb, ← hwd, hn]
      subst hnw
      have n1 : (nb.toList != nb.toList) = false := by simp
      have n3 : (nb.toList == nb.toList) = true := by simp
      obtain ⟨p, hp⟩ : ∃ p, pT (nx : Int) = p := ⟨_, rfl⟩
      have HPa : Hid (∀ W, Calls Tryz.prog 28 #[.int .i64 nx] W fun e w' => e = .returned (.string ⟨p.toArray⟩) ∧ Drawn0 W w') := Lib.hid (fun W => by have := text_parts.calls 20 nx _ W (pT_op nx (by omega) 0); rwa [hp] at this)
      have HPP := Lib.hid hp
      have HN := Lib.hid hn
      have hpf := pT_facts nx hx
      have hpl4 : p.length ≤ 4 := by rw [← hp]; exact hpf.1
      have hpm : ∀ c ∈ p, c ∈ ([68, 78, 77, 65, 73, 109, 67] : List UInt8) := by rw [← hp]; exact hpf.2
      clear hn hnb hp hpf hnx
      gi_upto_region 5 with (fail)
      gi_cut [26] from 23 (fun t V => t = .bool false ∧ Below W.heap.size W V)
      case first =>
        gi_region_with (first | (refine ⟨trivial, ?_⟩; gi_at_call 27; refine (CallsIn.inRound q (callsIn_wide.2 (HNm.out _ (HGW.out.below (w' := W.drew) ((Below.refl _ W).drew))))).mono ?_; rintro e V1 ⟨rfl, hv1⟩; have c3' := cell_be hv1 (show W.drew.cell? _ = _ from c3); have HV1 := Lib.hid (((Below.refl _ W).drew).trans hv1); clear hv1) | fail)
        all_goals (gi_wp2_with fail; gi_meet; exact ⟨rfl, HV1.out⟩)
      case rest =>
        obtain ⟨rfl, hb⟩ := hcut
        have HB := Lib.hid hb
        have HP1 := Lib.hid (HP0.out.later hb)
        have HG1 := Lib.hid (HG.out.below HP1.out.below)
        clear hb c3 HP0 HGW
        gi_wp2_with (first | (refine ⟨trivial, ?_⟩; gi_at_call 28; refine (CallsIn.inRound q (callsIn_wide.2 (HPa.out _))).mono ?_; rintro e V4 ⟨rfl, hv4⟩; have HV4 := Lib.hid hv4.below; clear hv4) | fail)
        obtain ⟨Bi, hBi⟩ : ∃ Bi, wc.heap.size = Bi := ⟨_, rfl⟩
        obtain ⟨IT, hIT⟩ : ∃ IT, V4.heap.size = IT := ⟨_, rfl⟩
        have hv4 := HV4.out
        have hsz4 := hv4.size
        rw [World.size_alloc] at hsz4
        have hbb : Below Bi wc V4 := by
          rw [← hBi]
          exact ((Below.refl _ wc).alloc (Nat.le_refl _) _).trans (hv4.mono (by simp))
        have h0 : PrS Bi IT wc ⟨p.toArray⟩ 0 (readJ nx (piecesS s.data.toList) 0) (V4.iter ⟨p.toArray⟩ 0) := by
          refine ⟨?_, by rw [← hIT]; exact World.iter_heap V4 _ 0, hbb.alloc (by rw [← hBi]; omega) _, by rw [← hBi, ← hIT]; omega⟩
          rw [← hBi]
          exact alloc_old (row_kept hv4 (heap_alloc_new wc _))
        have HBI := Lib.hid hBi
        have HNu : Hid (∀ (y : ByteArray) W, y ∈ pieB s → GlobT W → Calls Tryz.prog 29 #[.string y] W fun e w' => e = .returned (.int .i64 (numV y.data.toList)) ∧ Below W.heap.size W w') := Lib.hid (fun y W hy hW => tnumber_calls y W (by have := pieB_size s y hy; omega) hW)
        have hpd := pieB_data s
        have HPD := Lib.hid hpd
        rw [hBi, hIT]
        clear hv4 hsz4 hbb HV4 hBi hIT hpd HPa
        gi_loopw [] (fun wr => ∃ pos, pos ≤ p.length ∧ pos ≤ np + 1 ∧ PrS Bi IT wc ⟨p.toArray⟩ pos (readJ nx (piecesS s.data.toList) pos) wr) (fun wr => p.length - wr.iterPos IT)
        case atStart => exact ⟨0, by omega, by omega, h0⟩
        case round =>
          obtain ⟨pos, hpos, hposn, P0⟩ := hrel
          have hit := P0.it
          by_cases hlt : pos < p.length
          · have hcm := hpm _ (List.getElem_mem hlt)
            by_cases hk : pos < np + 1
            · have hkl : pos < (pieB s).length := by omega
              obtain ⟨y, hy⟩ : ∃ y, (pieB s)[pos]'hkl = y := ⟨_, rfl⟩
              have hym : y ∈ pieB s := by rw [← hy]; exact List.getElem_mem hkl
              obtain ⟨nv, hnv⟩ : ∃ nv, numV y.data.toList = nv := ⟨_, rfl⟩
              have HNv : Hid (∀ W, GlobT W → Calls Tryz.prog 29 #[.string y] W fun e w' => e = .returned (.int .i64 nv) ∧ Below W.heap.size W w') := Lib.hid (fun W hW => hnv ▸ HNu.out y W hym hW)
              obtain ⟨j, hj⟩ : ∃ j, readJ nx (piecesS s.data.toList) pos = j := ⟨_, rfl⟩
              have HSU : Hid (readJ nx (piecesS s.data.toList) (pos + 1) = setF j (p[pos]'hlt) nv) := by
                have hpl2 : pos < (pT (nx : Int)).length := by rw [HPP.out]; exact hlt
                have hll : pos < (piecesS s.data.toList).length := by rw [← HPD.out, List.length_map]; exact hkl
                have := readJ_succ (nx : Int) (piecesS s.data.toList) pos hpl2 hll
                rw [hj] at this
                refine Lib.hid (this.trans ?_)
                congr 1
                · simp only [HPP.out]
                · rw [← hnv]
                  congr 1
                  have h2 := congrArg (fun z => z[pos]?) HPD.out
                  simp only [List.getElem?_map, List.getElem?_eq_getElem hkl, List.getElem?_eq_getElem hll, Option.map_some, hy] at h2
                  exact (Option.some.inj h2).symm
              rw [hj] at P0
              have P1 := P0.next (pos + 1)
              have A1 := HP1.out.later (W' := wr.iterAt IT ⟨p.toArray⟩ (pos + 1)) (by have := P1.below; rwa [← HBI.out] at this)
              have c5 := A1.b5.cell
              have c4 := cell_of_row _ _ pos _ _ _ A1.b4
              rw [show ((pieB s).map Value.string).toArray[pos]? = some (.string y) by rw [List.getElem?_toArray, List.getElem?_map, List.getElem?_eq_getElem hkl, hy]; rfl] at c4
              have q1 : decide ((pos : Int) ≥ ((np + 1 : Nat) : Int)) = false := decide_eq_false (by omega)
              have q2 : ¬ ((np : Int) + 1 ≤ (pos : Int)) := by omega
              have q3 : ((np : Int) + 1 ≤ (pos : Int)) = False := eq_false q2
              have HA1 := Lib.hid (HG.out.below A1.below)
              have HP9 := Lib.hid P1
              clear P0 P1 A1 hym hnv hj hy HNu
              simp only [List.mem_cons, List.not_mem_nil, or_false] at hcm
              obtain ⟨jo, jd, jn, jm, ja, jc, ji⟩ := j
              rcases hcm with hc | hc | hc | hc | hc | hc | hc
              · have hnx : ∀ ty, (Instr.next (.pointer (some ⟨IT, 0, none⟩)) true ty).run Tryz.prog wr = .ok (.tuple #[.bool true, .int .i64 pos, .int .i32 68]) (wr.iterAt IT ⟨p.toArray⟩ (pos + 1)) := fun ty => next_at wr IT p pos 68 hit hlt hc (by decide) ty
                gi_wp2_with (first | (refine ⟨trivial, ?_⟩; gi_at_call 29; refine (CallsIn.inRound q (callsIn_wide.2 (HNv.out _ HA1.out))).mono ?_; rintro e V6 ⟨rfl, hv6⟩; have P2 := HP9.out.later hv6; obtain ⟨y0, y1, y2, y3, y4, y5, y6⟩ := cells7 P2.bi; obtain ⟨f0, f1, f2, f3, f4, f5, f6⟩ := frz7 P2.bi; have HP2 := Lib.hid P2; clear P2 hv6) | fail)
                have HP3 := Lib.hid (HP2.out.set 1 (.int .i64 nv) ⟨jo, nv, jn, jm, ja, jc, ji⟩ rfl)
                go_roundw
                case rel => exact ⟨pos + 1, by omega, by omega, by rw [HSU.out, hc]; exact HP3.out⟩
                case measure => simp only [World.iterPos, HP3.out.it, hit]; omega
              · have hnx : ∀ ty, (Instr.next (.pointer (some ⟨IT, 0, none⟩)) true ty).run Tryz.prog wr = .ok (.tuple #[.bool true, .int .i64 pos, .int .i32 78]) (wr.iterAt IT ⟨p.toArray⟩ (pos + 1)) := fun ty => next_at wr IT p pos 78 hit hlt hc (by decide) ty
                gi_wp2_with (first | (refine ⟨trivial, ?_⟩; gi_at_call 29; refine (CallsIn.inRound q (callsIn_wide.2 (HNv.out _ HA1.out))).mono ?_; rintro e V6 ⟨rfl, hv6⟩; have P2 := HP9.out.later hv6; obtain ⟨y0, y1, y2, y3, y4, y5, y6⟩ := cells7 P2.bi; obtain ⟨f0, f1, f2, f3, f4, f5, f6⟩ := frz7 P2.bi; have HP2 := Lib.hid P2; clear P2 hv6) | fail)
                have HP3 := Lib.hid (HP2.out.set 2 (.int .i64 nv) ⟨jo, jd, nv, jm, ja, jc, ji⟩ rfl)
                go_roundw
                case rel => exact ⟨pos + 1, by omega, by omega, by rw [HSU.out, hc]; exact HP3.out⟩
                case measure => simp only [World.iterPos, HP3.out.it, hit]; omega
              · have hnx : ∀ ty, (Instr.next (.pointer (some ⟨IT, 0, none⟩)) true ty).run Tryz.prog wr = .ok (.tuple #[.bool true, .int .i64 pos, .int .i32 77]) (wr.iterAt IT ⟨p.toArray⟩ (pos + 1)) := fun ty => next_at wr IT p pos 77 hit hlt hc (by decide) ty
                gi_wp2_with (first | (refine ⟨trivial, ?_⟩; gi_at_call 29; refine (CallsIn.inRound q (callsIn_wide.2 (HNv.out _ HA1.out))).mono ?_; rintro e V6 ⟨rfl, hv6⟩; have P2 := HP9.out.later hv6; obtain ⟨y0, y1, y2, y3, y4, y5, y6⟩ := cells7 P2.bi; obtain ⟨f0, f1, f2, f3, f4, f5, f6⟩ := frz7 P2.bi; have HP2 := Lib.hid P2; clear P2 hv6) | fail)
                have HP3 := Lib.hid (HP2.out.set 3 (.int .i64 nv) ⟨jo, jd, jn, nv, ja, jc, ji⟩ rfl)
                go_roundw
                case rel => exact ⟨pos + 1, by omega, by omega, by rw [HSU.out, hc]; exact HP3.out⟩
                case measure => simp only [World.iterPos, HP3.out.it, hit]; omega
              · have hnx : ∀ ty, (Instr.next (.pointer (some ⟨IT, 0, none⟩)) true ty).run Tryz.prog wr = .ok (.tuple #[.bool true, .int .i64 pos, .int .i32 65]) (wr.iterAt IT ⟨p.toArray⟩ (pos + 1)) := fun ty => next_at wr IT p pos 65 hit hlt hc (by decide) ty
                gi_wp2_with (first | (refine ⟨trivial, ?_⟩; gi_at_call 29; refine (CallsIn.inRound q (callsIn_wide.2 (HNv.out _ HA1.out))).mono ?_; rintro e V6 ⟨rfl, hv6⟩; have P2 := HP9.out.later hv6; obtain ⟨y0, y1, y2, y3, y4, y5, y6⟩ := cells7 P2.bi; obtain ⟨f0, f1, f2, f3, f4, f5, f6⟩ := frz7 P2.bi; have HP2 := Lib.hid P2; clear P2 hv6) | fail)
                have HP3 := Lib.hid (HP2.out.set 4 (.int .i64 nv) ⟨jo, jd, jn, jm, nv, jc, ji⟩ rfl)
                go_roundw
                case rel => exact ⟨pos + 1, by omega, by omega, by rw [HSU.out, hc]; exact HP3.out⟩
                case measure => simp only [World.iterPos, HP3.out.it, hit]; omega
              · have hnx : ∀ ty, (Instr.next (.pointer (some ⟨IT, 0, none⟩)) true ty).run Tryz.prog wr = .ok (.tuple #[.bool true, .int .i64 pos, .int .i32 73]) (wr.iterAt IT ⟨p.toArray⟩ (pos + 1)) := fun ty => next_at wr IT p pos 73 hit hlt hc (by decide) ty
                gi_wp2_with (first | (refine ⟨trivial, ?_⟩; gi_at_call 29; refine (CallsIn.inRound q (callsIn_wide.2 (HNv.out _ HA1.out))).mono ?_; rintro e V6 ⟨rfl, hv6⟩; have P2 := HP9.out.later hv6; obtain ⟨y0, y1, y2, y3, y4, y5, y6⟩ := cells7 P2.bi; obtain ⟨f0, f1, f2, f3, f4, f5, f6⟩ := frz7 P2.bi; have HP2 := Lib.hid P2; clear P2 hv6) | fail)
                have HP3 := Lib.hid (HP2.out.set 6 (.int .i64 nv) ⟨jo, jd, jn, jm, ja, jc, nv⟩ rfl)
                go_roundw
                case rel => exact ⟨pos + 1, by omega, by omega, by rw [HSU.out, hc]; exact HP3.out⟩
                case measure => simp only [World.iterPos, HP3.out.it, hit]; omega
              · have hnx : ∀ ty, (Instr.next (.pointer (some ⟨IT, 0, none⟩)) true ty).run Tryz.prog wr = .ok (.tuple #[.bool true, .int .i64 pos, .int .i32 109]) (wr.iterAt IT ⟨p.toArray⟩ (pos + 1)) := fun ty => next_at wr IT p pos 109 hit hlt hc (by decide) ty
                gi_wp2_with (first | (refine ⟨trivial, ?_⟩; gi_at_call 29; refine (CallsIn.inRound q (callsIn_wide.2 (HNv.out _ HA1.out))).mono ?_; rintro e V6 ⟨rfl, hv6⟩; have P2 := HP9.out.later hv6; obtain ⟨y0, y1, y2, y3, y4, y5, y6⟩ := cells7 P2.bi; obtain ⟨f0, f1, f2, f3, f4, f5, f6⟩ := frz7 P2.bi; have HP2 := Lib.hid P2; clear P2 hv6) | fail)
                have HP3 := Lib.hid (HP2.out.set 3 (.int .i64 nv) ⟨jo, jd, jn, nv, ja, jc, ji⟩ rfl)
                go_roundw
                case rel => exact ⟨pos + 1, by omega, by omega, by rw [HSU.out, hc]; exact HP3.out⟩
                case measure => simp only [World.iterPos, HP3.out.it, hit]; omega
              · have hnx : ∀ ty, (Instr.next (.pointer (some ⟨IT, 0, none⟩)) true ty).run Tryz.prog wr = .ok (.tuple #[.bool true, .int .i64 pos, .int .i32 67]) (wr.iterAt IT ⟨p.toArray⟩ (pos + 1)) := fun ty => next_at wr IT p pos 67 hit hlt hc (by decide) ty
                gi_wp2_with (first | (refine ⟨trivial, ?_⟩; gi_at_call 29; refine (CallsIn.inRound q (callsIn_wide.2 (HNv.out _ HA1.out))).mono ?_; rintro e V6 ⟨rfl, hv6⟩; have P2 := HP9.out.later hv6; obtain ⟨y0, y1, y2, y3, y4, y5, y6⟩ := cells7 P2.bi; obtain ⟨f0, f1, f2, f3, f4, f5, f6⟩ := frz7 P2.bi; have HP2 := Lib.hid P2; clear P2 hv6) | fail)
                have HP3 := Lib.hid (HP2.out.set 5 (.int .i64 nv) ⟨jo, jd, jn, jm, ja, nv, ji⟩ rfl)
                go_roundw
                case rel => exact ⟨pos + 1, by omega, by omega, by rw [HSU.out, hc]; exact HP3.out⟩
                case measure => simp only [World.iterPos, HP3.out.it, hit]; omega
            · have hnx : ∀ ty, (Instr.next (.pointer (some ⟨IT, 0, none⟩)) true ty).run Tryz.prog wr = .ok (.tuple #[.bool true, .int .i64 pos, .int .i32 (((p[pos]'hlt).toNat : Nat) : Int)]) (wr.iterAt IT ⟨p.toArray⟩ (pos + 1)) := fun ty => next_at wr IT p pos _ hit hlt rfl (by
                simp only [List.mem_cons, List.not_mem_nil, or_false] at hcm
                rcases hcm with hc | hc | hc | hc | hc | hc | hc <;> rw [hc] <;> decide) ty
              have P1 := P0.next (pos + 1)
              have A1 := HP1.out.later (W' := wr.iterAt IT ⟨p.toArray⟩ (pos + 1)) (by have := P1.below; rwa [← HBI.out] at this)
              have c5 := A1.b5.cell
              have q1 : decide ((pos : Int) ≥ ((np + 1 : Nat) : Int)) = true := decide_eq_true (by omega)
              have q2 : ((np : Int) + 1 ≤ (pos : Int)) := by omega
              have q3 : ((np : Int) + 1 ≤ (pos : Int)) = True := eq_true q2
              have hend : (pT (nx : Int)).length ≤ pos ∨ (piecesS s.data.toList).length ≤ pos := .inr (by rw [← HPD.out, List.length_map]; omega)
              clear P0 A1
              gi_wp2_with fail
              obtain ⟨j, hj⟩ : ∃ j, readI (nx : Int) s.data.toList = j := ⟨_, rfl⟩
              have P9 : PrS Bi IT wc ⟨p.toArray⟩ (pos + 1) j (wr.iterAt IT ⟨p.toArray⟩ (pos + 1)) := by
                have e : readJ (nx : Int) (piecesS s.data.toList) pos = j := by
                  rw [readJ_all _ _ _ hend, ← hj]
                  rfl
                rw [← e]
                exact P1
              have HPA := Lib.hid (HP1.out.later (by have := P9.below; rwa [← HBI.out] at this))
              have c0 := HPA.out.b0.cell
              have HGV := Lib.hid (HG.out.below HPA.out.below)
              have HJ := Lib.hid hj
              obtain ⟨tI, htI⟩ : ∃ tI : ByteArray, (⟨(insS j).toArray⟩ : ByteArray) = tI := ⟨_, rfl⟩
              have HIns : Hid (∀ W, GlobT W → Calls Tryz.prog 14 #[.agg (irC j)] W fun e w' => e = .returned (.string tI) ∧ Below W.heap.size W w') := Lib.hid (fun W hW => htI ▸ Ins_calls j W hW)
              have hTS : insS j = s.data.toList ↔ tI = s := by
                rw [← htI]
                constructor
                · intro e; rw [e]
                · intro e; have := congrArg (fun z : ByteArray => z.data.toList) e; simpa using this
              obtain ⟨jo, jd, jn, jm, ja, jc, ji⟩ := j
              unfold irC at HIns
              dsimp only at HIns
              obtain ⟨y0, y1, y2, y3, y4, y5, y6⟩ := cells7 P9.bi
              have HP9 := Lib.hid P9
              clear P9 hj htI
              by_cases hts : tI = s
              · have HIT := Lib.hid (show Hit s.data.toList nx from ⟨HN.out, by rw [HJ.out]; exact hTS.2 hts⟩)
                rw [hts] at HIns
                have m1 : (s.toList == s.toList) = true := by simp
                clear hTS hts
                gi_upto_region 26 with (fail)
                gi_cut [74] from 71 (fun t Z => t = .bool true ∧ Below (World.heap (wr.iterAt IT ⟨p.toArray⟩ (pos + 1))).size (wr.iterAt IT ⟨p.toArray⟩ (pos + 1)) Z)
                case first =>
                  gi_region_with (first | (refine ⟨trivial, ?_⟩; gi_at_call 14; refine (CallsIn.inRound q (callsIn_wide.2 (HIns.out _ (HGV.out.below ((Below.refl _ _).drew))))).mono ?_; rintro e V5 ⟨rfl, hv5⟩; have c0' := cell_be hv5 (show World.cell? (World.drew (wr.iterAt IT ⟨p.toArray⟩ (pos + 1))) _ = _ from c0); have HV5 := Lib.hid (((Below.refl _ (wr.iterAt IT ⟨p.toArray⟩ (pos + 1))).drew).trans hv5); clear hv5) | fail)
                  all_goals (gi_wp2_with fail; gi_meet; exact ⟨rfl, HV5.out⟩)
                case rest =>
                  obtain ⟨rfl, hz⟩ := hcut
                  have P10 := HP9.out.later hz
                  have A10 := HPA.out.later hz
                  clear y0 y1 y2 y3 y4 y5 y6
                  obtain ⟨y0, y1, y2, y3, y4, y5, y6⟩ := cells7 P10.bi
                  obtain ⟨z0, z1, z2, z3, z4, z5, z6⟩ := cells7 A10.b1
                  obtain ⟨f0, f1, f2, f3, f4, f5, f6⟩ := frz7 A10.b1
                  have e2 := A10.b2.cell
                  have g2 := A10.b2.frozen
                  have HA10 := Lib.hid A10
                  have HZ := Lib.hid (And.intro (HB.out) (And.intro HP9.out.below hz))
                  clear P10 A10 hz
                  gi_wp2_with fail
                  obtain ⟨k1, k2, k3, k4⟩ := put7 HA10.out.b1 jo jd jn jm ja jc ji _ rfl
                  have hbi := HA10.out.size
                  refine ⟨((((others_bel HZ.out.1).trans (others_bel (by have := HZ.out.2.1; rwa [← HBI.out] at this))).trans (others_bel HZ.out.2.2)).trans (k3.trans (KeepsOthers.setCell _ _ _))).from _, ⟨⟨⟨?_, ?_⟩, ?_, ?_⟩, rfl, nx, hx, ?_, HIT.out⟩⟩
                  · rw [lastOp_snoc, HX.out, HJ.out]
                    exact (heap_setCell_ne _ _ _ _ _ (by omega)).trans k1
                  · exact Boxed.set (.int .i64 0) ((k2 _ (by omega)).trans HA10.out.b2)
                  · exact (k4 _ _ (by omega) HA10.out.below).setCell (p := ⟨w.heap.size + 2, 0, none⟩) (by simp) _
                  · exact Nat.le_trans hbi (Nat.le_trans k3.size (KeepsOthers.setCell _ _ _).size)
                  · rw [lastOp_snoc, HX.out]
              · have HNIT := Lib.hid (show ¬ Hit s.data.toList nx from fun hh => hts (hTS.1 (by rw [← HJ.out]; exact hh.2)))
                have m1 : (tI.toList == s.toList) = false := by
                  rw [beq_eq_false_iff_ne, be_list, be_list]
                  exact fun e => hts (ByteArray.ext (Array.toList_inj.1 e))
                have m2 : ¬ tI.toList = s.toList := by
                  rw [be_list, be_list]
                  exact fun e => hts (ByteArray.ext (Array.toList_inj.1 e))
                clear hTS hts
                gi_upto_region 26 with (fail)
                gi_cut [74] from 71 (fun t Z => t = .bool false ∧ Below (World.heap (wr.iterAt IT ⟨p.toArray⟩ (pos + 1))).size (wr.iterAt IT ⟨p.toArray⟩ (pos + 1)) Z)
                case first =>
                  gi_region_with (first | (refine ⟨trivial, ?_⟩; gi_at_call 14; refine (CallsIn.inRound q (callsIn_wide.2 (HIns.out _ (HGV.out.below ((Below.refl _ _).drew))))).mono ?_; rintro e V5 ⟨rfl, hv5⟩; have c0' := cell_be hv5 (show World.cell? (World.drew (wr.iterAt IT ⟨p.toArray⟩ (pos + 1))) _ = _ from c0); have HV5 := Lib.hid (((Below.refl _ (wr.iterAt IT ⟨p.toArray⟩ (pos + 1))).drew).trans hv5); clear hv5) | fail)
                  all_goals (gi_wp2_with fail; gi_meet; exact ⟨rfl, HV5.out⟩)
                case rest =>
                  obtain ⟨rfl, hz⟩ := hcut
                  have HZ := Lib.hid (And.intro (HB.out) (And.intro HP9.out.below hz))
                  clear hz
                  gi_wp2_with fail
                  refine ⟨(((others_bel HZ.out.1).trans (others_bel (by have := HZ.out.2.1; rwa [← HBI.out] at this))).trans (others_bel HZ.out.2.2)).from _, trivial, HPA.out.later HZ.out.2.2, ?_⟩
                  intro y hy
                  rcases List.mem_append.1 hy with hy | hy
                  · exact HH.out y hy
                  · simp only [List.mem_singleton] at hy
                    subst hy
                    rw [HX.out]
                    exact HNIT.out
          · have hnx : ∀ ty, (Instr.next (.pointer (some ⟨IT, 0, none⟩)) true ty).run Tryz.prog wr = .ok (.tuple #[.bool false]) wr := fun ty => next_end wr IT p pos hit hlt ty
            have hend : (pT (nx : Int)).length ≤ pos ∨ (piecesS s.data.toList).length ≤ pos := .inl (by rw [HPP.out]; omega)
            gi_wp2_with fail
            obtain ⟨j, hj⟩ : ∃ j, readI (nx : Int) s.data.toList = j := ⟨_, rfl⟩
            have P9 : PrS Bi IT wc ⟨p.toArray⟩ pos j wr := by
              have e : readJ (nx : Int) (piecesS s.data.toList) pos = j := by
                rw [readJ_all _ _ _ hend, ← hj]
                rfl
              rw [← e]
              exact P0
            have HPA := Lib.hid (HP1.out.later (by have := P9.below; rwa [← HBI.out] at this))
            have c0 := HPA.out.b0.cell
            have HGV := Lib.hid (HG.out.below HPA.out.below)
            have HJ := Lib.hid hj
            obtain ⟨tI, htI⟩ : ∃ tI : ByteArray, (⟨(insS j).toArray⟩ : ByteArray) = tI := ⟨_, rfl⟩
            have HIns : Hid (∀ W, GlobT W → Calls Tryz.prog 14 #[.agg (irC j)] W fun e w' => e = .returned (.string tI) ∧ Below W.heap.size W w') := Lib.hid (fun W hW => htI ▸ Ins_calls j W hW)
            have hTS : insS j = s.data.toList ↔ tI = s := by
              rw [← htI]
              constructor
              · intro e; rw [e]
              · intro e; have := congrArg (fun z : ByteArray => z.data.toList) e; simpa using this
            obtain ⟨jo, jd, jn, jm, ja, jc, ji⟩ := j
            unfold irC at HIns
            dsimp only at HIns
            obtain ⟨y0, y1, y2, y3, y4, y5, y6⟩ := cells7 P9.bi
            have HP9 := Lib.hid P9
            clear P9 hj htI
            by_cases hts : tI = s
            · have HIT := Lib.hid (show Hit s.data.toList nx from ⟨HN.out, by rw [HJ.out]; exact hTS.2 hts⟩)
              rw [hts] at HIns
              have m1 : (s.toList == s.toList) = true := by simp
              clear hTS hts
              gi_upto_region 26 with (fail)
              gi_cut [74] from 71 (fun t Z => t = .bool true ∧ Below (World.heap wr).size wr Z)
              case first =>
                gi_region_with (first | (refine ⟨trivial, ?_⟩; gi_at_call 14; refine (CallsIn.inRound q (callsIn_wide.2 (HIns.out _ (HGV.out.below ((Below.refl _ _).drew))))).mono ?_; rintro e V5 ⟨rfl, hv5⟩; have c0' := cell_be hv5 (show World.cell? (World.drew wr) _ = _ from c0); have HV5 := Lib.hid (((Below.refl _ wr).drew).trans hv5); clear hv5) | fail)
                all_goals (gi_wp2_with fail; gi_meet; exact ⟨rfl, HV5.out⟩)
              case rest =>
                obtain ⟨rfl, hz⟩ := hcut
                have P10 := HP9.out.later hz
                have A10 := HPA.out.later hz
                clear y0 y1 y2 y3 y4 y5 y6
                obtain ⟨y0, y1, y2, y3, y4, y5, y6⟩ := cells7 P10.bi
                obtain ⟨z0, z1, z2, z3, z4, z5, z6⟩ := cells7 A10.b1
                obtain ⟨f0, f1, f2, f3, f4, f5, f6⟩ := frz7 A10.b1
                have e2 := A10.b2.cell
                have g2 := A10.b2.frozen
                have HA10 := Lib.hid A10
                have HZ := Lib.hid (And.intro (HB.out) (And.intro HP9.out.below hz))
                clear P10 A10 hz
                gi_wp2_with fail
                obtain ⟨k1, k2, k3, k4⟩ := put7 HA10.out.b1 jo jd jn jm ja jc ji _ rfl
                have hbi := HA10.out.size
                refine ⟨((((others_bel HZ.out.1).trans (others_bel (by have := HZ.out.2.1; rwa [← HBI.out] at this))).trans (others_bel HZ.out.2.2)).trans (k3.trans (KeepsOthers.setCell _ _ _))).from _, ⟨⟨⟨?_, ?_⟩, ?_, ?_⟩, rfl, nx, hx, ?_, HIT.out⟩⟩
                · rw [lastOp_snoc, HX.out, HJ.out]
                  exact (heap_setCell_ne _ _ _ _ _ (by omega)).trans k1
                · exact Boxed.set (.int .i64 0) ((k2 _ (by omega)).trans HA10.out.b2)
                · exact (k4 _ _ (by omega) HA10.out.below).setCell (p := ⟨w.heap.size + 2, 0, none⟩) (by simp) _
                · exact Nat.le_trans hbi (Nat.le_trans k3.size (KeepsOthers.setCell _ _ _).size)
                · rw [lastOp_snoc, HX.out]
            · have HNIT := Lib.hid (show ¬ Hit s.data.toList nx from fun hh => hts (hTS.1 (by rw [← HJ.out]; exact hh.2)))
              have m1 : (tI.toList == s.toList) = false := by
                rw [beq_eq_false_iff_ne, be_list, be_list]
                exact fun e => hts (ByteArray.ext (Array.toList_inj.1 e))
              have m2 : ¬ tI.toList = s.toList := by
                rw [be_list, be_list]
                exact fun e => hts (ByteArray.ext (Array.toList_inj.1 e))
              clear hTS hts
              gi_upto_region 26 with (fail)
              gi_cut [74] from 71 (fun t Z => t = .bool false ∧ Below (World.heap wr).size wr Z)
              case first =>
                gi_region_with (first | (refine ⟨trivial, ?_⟩; gi_at_call 14; refine (CallsIn.inRound q (callsIn_wide.2 (HIns.out _ (HGV.out.below ((Below.refl _ _).drew))))).mono ?_; rintro e V5 ⟨rfl, hv5⟩; have c0' := cell_be hv5 (show World.cell? (World.drew wr) _ = _ from c0); have HV5 := Lib.hid (((Below.refl _ wr).drew).trans hv5); clear hv5) | fail)
                all_goals (gi_wp2_with fail; gi_meet; exact ⟨rfl, HV5.out⟩)
              case rest =>
                obtain ⟨rfl, hz⟩ := hcut
                have HZ := Lib.hid (And.intro (HB.out) (And.intro HP9.out.below hz))
                clear hz
                gi_wp2_with fail
                refine ⟨(((others_bel HZ.out.1).trans (others_bel (by have := HZ.out.2.1; rwa [← HBI.out] at this))).trans (others_bel HZ.out.2.2)).from _, trivial, HPA.out.later HZ.out.2.2, ?_⟩
                intro y hy
                rcases List.mem_append.1 hy with hy | hy
                · exact HH.out y hy
                · simp only [List.mem_singleton] at hy
                  subst hy
                  rw [HX.out]
                  exact HNIT.out
    · have hnw : nb ≠ wd := by
        rw [← hnb, ← hwd]
        intro e
        exact hn (by have := congrArg ByteArray.data e; simpa using this)
      have n1 : ¬ nb.toList = wd.toList := by
        rw [be_list, be_list]
        exact fun e => hnw (ByteArray.ext (Array.toList_inj.1 e))
      have n2 : (nb.toList != wd.toList) = true := by rw [bne_iff_ne]; exact n1
      have n3 : (nb.toList == wd.toList) = false := by rw [beq_eq_false_iff_ne]; exact n1
      have HNO : Hid (¬ Hit s.data.toList nx) := Lib.hid (fun h => hn h.1)
      clear hnw hn hnb
      gi_upto_region 5 with (fail)
      gi_cut [26] from 23 (fun t V => t = .bool true ∧ Below W.heap.size W V)
      case first =>
        gi_region_with (first | (refine ⟨trivial, ?_⟩; gi_at_call 27; refine (CallsIn.inRound q (callsIn_wide.2 (HNm.out _ (HGW.out.below (w' := W.drew) ((Below.refl _ W).drew))))).mono ?_; rintro e V1 ⟨rfl, hv1⟩; have c3' := cell_be hv1 (show W.drew.cell? _ = _ from c3); have HV1 := Lib.hid (((Below.refl _ W).drew).trans hv1); clear hv1) | fail)
        all_goals (gi_wp2_with fail; gi_meet; exact ⟨rfl, HV1.out⟩)
      case rest =>
        obtain ⟨rfl, hb⟩ := hcut
        have HB := Lib.hid hb
        clear hb
        gi_wp2_with fail
        refine ⟨(others_bel HB.out).from _, trivial, HP0.out.later HB.out, ?_⟩
        intro y hy
        rcases List.mem_append.1 hy with hy | hy
        · exact HH.out y hy
        · simp only [List.mem_singleton] at hy
          subst hy
          rw [HX.out]
          exact HNO.out
  case done =>
    rintro D ys W hD rfl ⟨P0, ho⟩ hK
    obtain ⟨z0, z1, z2, z3, z4, z5, z6⟩ := cells7 P0.b1
    obtain ⟨f0, f1, f2, f3, f4, f5, f6⟩ := frz7 P0.b1
    have e2 := P0.b2.cell
    have g2 := P0.b2.frozen
    have HP0 := Lib.hid P0
    have HK := Lib.hid hK
    have HNO : Hid (∀ op : Nat, op < 43 → nm5 (op : Int) = wordS s.data.toList → insS (readI op s.data.toList) ≠ s.data.toList) := Lib.hid (fun op h1 h2 h3 => ho ⟨op, h1⟩ (List.mem_finRange _) ⟨h2, h3⟩)
    clear P0 hK ho
    go_wp2_with fail
    obtain ⟨k1, k2, k3, k4⟩ := put7 HP0.out.b1 0 0 0 0 0 0 0 _ rfl
    have hsz := HP0.out.size
    obtain ⟨X, hX⟩ : ∃ X, ((((((W.setCell ⟨w.heap.size + 1, 0, none⟩ (.int .i64 0)).setCell ⟨w.heap.size + 1, 1, none⟩ (.int .i64 0)).setCell ⟨w.heap.size + 1, 2, none⟩ (.int .i64 0)).setCell ⟨w.heap.size + 1, 3, none⟩ (.int .i64 0)).setCell ⟨w.heap.size + 1, 4, none⟩ (.int .i64 0)).setCell ⟨w.heap.size + 1, 5, none⟩ (.int .i64 0)).setCell ⟨w.heap.size + 1, 6, none⟩ (.int .i64 0) = X := ⟨_, rfl⟩
    rw [hX] at k1 k2 k3 k4 ⊢
    have hd : (X.setCell ⟨w.heap.size + 2, 0, none⟩ (.int .i64 5)).heap[D]? = some (.deferred (some [])) := (k3.trans (KeepsOthers.setCell _ _ _)).same _ _ HK.out rfl
    have hr1 : (X.setCell ⟨w.heap.size + 2, 0, none⟩ (.int .i64 5)).heap[w.heap.size + 1]? = some (Obj.cells (irC (i0 0)) 39 (0, 0)) := (heap_setCell_ne _ _ _ _ _ (by omega)).trans k1
    have hr2 : Boxed (X.setCell ⟨w.heap.size + 2, 0, none⟩ (.int .i64 5)) (w.heap.size + 2) 33 (.int .i64 5) := Boxed.set (.int .i64 5) ((k2 _ (by omega)).trans HP0.out.b2)
    have hbx : Below w.heap.size w (X.setCell ⟨w.heap.size + 2, 0, none⟩ (.int .i64 5)) := (k4 _ _ (by omega) HP0.out.below).setCell (p := ⟨w.heap.size + 2, 0, none⟩) (by simp) _
    refine ⟨by simp, .inl ⟨_, _, rfl, run_takeDeferred hd, ?_⟩⟩
    refine ⟨_, results_rc (fn := Tryz.f13) rfl rfl rfl (run_loadVar_row _ _ 39 39 (irC (i0 0)) (0, 0) _ (row_put hd hr1 rfl) Tryz.underlying39 rfl (by kernel_rfl)) (load_b (boxed_put hd hr2).cell (by kernel_rfl)), ?_⟩
    exact ⟨i0 0, 5, rfl, .inr ⟨HNO.out, rfl, rfl⟩, hbx.trans (belowK_b (w := w) (Nat.le_refl _) _ D _ _ (by omega) hd rfl rfl)⟩
  case stop =>
    rintro D c pre W hD hpre ⟨⟨⟨b1, b2⟩, hb, hs2⟩, rfl, op, hop, hlast, hhit⟩ hK
    gi_wp2_with fail
    refine ⟨by simp, .inl ⟨_, _, rfl, run_takeDeferred hK, ?_⟩⟩
    refine ⟨_, results_rc (fn := Tryz.f13) rfl rfl rfl (run_loadVar_row _ _ 39 39 _ (0, 0) _ (row_put hK b1 rfl) Tryz.underlying39 rfl (by kernel_rfl)) (load_b (boxed_put hK b2).cell (by kernel_rfl)), ?_⟩
    exact ⟨_, 0, rfl, .inl ⟨op, hop, hhit.1, by rw [hlast], by rw [hlast]; exact hhit.2, rfl⟩, hb.trans (belowK_b (w := w) (Nat.le_refl _) _ D _ _ (by omega) hK rfl rfl)⟩
end Go.Proofs.YtkphijabhoppnaaGreatDoor
